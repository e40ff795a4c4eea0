import Derived.Test.YtkebnpemgkjpkaaGreatDoorJ22
set_option maxRecDepth 100000
set_option maxHeartbeats 20000000
set_option linter.all false
namespace Go.Proofs.YtkebnpemgkjpkaaGreatDoor
open Go Go.RowKit Go.Proofs.Tryz Tryz
section
variable {C:RCtx}{M M':MRep}{w w':kV}{s s':MSt}{B:Nat}{a:ATree}{V:VF}{D:DF}{b:Int}{sc:Int}{fr:Frm}{d:Nat}
def Acw{V:VF}{D:DF}{f:Nat}{n:NT}(hs:s.steps<20000)(h1:n.kids.isEmpty=false)(g:n.kind≠2/\n.kind≠5/\n.kind≠6/\n.kind≠12/\n.kind≠8):yk V D f n sc fr s =
 Zx (V (n.kid 0) sc fr) (BF V D f n sc fr (-1)) {s with steps:=s.steps+1}:=by
 unfold yk tm;rw[Y3 Px,Y3 (by rw[h1];simp;exact g.2)];show Zx (V (n.kid 0) sc fr) (BF V D f n sc fr (if n.kind=2/\n.kids.isEmpty=false then s.H.find sc n.text else -1)) _=_;rw[Y3 (λe=>g.1 e.1)]
theorem Ab4{A B:Prop}{H R:kV->Nat->Prop}(m:Hid (∀W p,H W p->R W p)->A)(u:Hid (∀W p,H W p->R W p)->B)(g:∀W p,H W p->R W p):A/\B:=⟨m (lh g),u (lh g)⟩
def Aac(C:RCtx)(M:MRep)(w:kV)(s':MSt)(M':MRep)(rb:Nat)(v:LVal)(W:kV)(p:Nat):Prop:=
 MAt C M' W s'/\MFr M M' w W/\ax C M' W (.thr v) (rD p)/\Lo C M' w W rb #[vI 0,vI 0,.string ⟨#[]⟩] 56
def Zd5(h:MAt C M w s)(v:LVal):MAt C M (((w.setCell ⟨C.mb,14,none⟩ (vI v.kind)).setCell ⟨C.mb,15,none⟩ (vI v.n)).setCell ⟨C.mb,16,none⟩ (.string v.s)) {s with last:=v}/\
 MFr M M w (((w.setCell ⟨C.mb,14,none⟩ (vI v.kind)).setCell ⟨C.mb,15,none⟩ (vI v.n)).setCell ⟨C.mb,16,none⟩ (.string v.s)):=by
 have hr:∀j,14<=j->∀i,i<4->rowO i≠j:=λj m i hi=>by
  match i,hi with
  |0,_=>simp[rowO];omega
  |1,_=>simp[rowO];omega
  |2,_=>simp[rowO];omega
  |3,_=>simp[rowO];omega
 obtain⟨g,a2⟩:=h.scalar (j:=14) (v:=(vI v.kind)) (s':={s with last:=⟨v.kind,s.last.n,s.last.s⟩}) Py rfl rfl rfl rfl rfl (hr 14 Px) ⟨_,h.cell 14 (vI s.last.kind) PI⟩ (λo x hx=>by
  simp only[lR,List.mem_cons,Prod.mk.injEq,List.not_mem_nil,or_false]at hx ⊢;rcases hx with h|h|h|h|h|h|h|h|h|h|h<;>(obtain⟨rfl,rfl⟩:=h;simp))
 obtain⟨b1,b2⟩:=g.scalar (j:=15) (v:=(vI v.n)) (s':={s with last:=⟨v.kind,v.n,s.last.s⟩}) Py rfl rfl rfl rfl rfl (hr 15 Px) ⟨_,g.cell 15 (vI s.last.n) PI⟩ (λo x hx=>by
  simp only[lR,List.mem_cons,Prod.mk.injEq,List.not_mem_nil,or_false]at hx ⊢;rcases hx with h|h|h|h|h|h|h|h|h|h|h<;>(obtain⟨rfl,rfl⟩:=h;simp))
 obtain⟨c1,c2⟩:=b1.scalar (j:=16) (v:=.string v.s) (s':={s with last:=v}) Py rfl rfl rfl rfl rfl (hr 16 Px) ⟨_,b1.cell 16 (.string s.last.s) PI⟩ (λo x hx=>by
  simp only[lR,List.mem_cons,Prod.mk.injEq,List.not_mem_nil,or_false]at hx ⊢;rcases hx with h|h|h|h|h|h|h|h|h|h|h<;>(obtain⟨rfl,rfl⟩:=h;simp))
 exact⟨c1,(a2.trans b2).trans c2⟩
def Z6y(cj:zm C V b)(cT:G8 C D b)(hV:VH V b)(h:MAt C M w s)(hI:Inv s 0)(tZ:d+1<=20000)(hA:FAt s sc fr)(hb:b<=s.steps+1)(hs:s.steps<20000)(ha:TreeAt w B a)(hf:a.free M){x:ATree}{l:List ATree}(co:a.kids=x::l)(wx:(x.nt C.N).wf .v)(mx:(x.nt C.N).tree.many<=1500)(hl:l.length<=2)(yO:∀y∈l,(y.nt C.N).wf .s/\(y.nt C.N).tree.many<=1500){fu:Nat}(hk:a.kind=3\/a.kind=4\/a.kind=7/\1<=l.length\/a.kind=9/\l.length=1\/a.kind=10\/a.kind=11\/a.kind=15) :
 kC 46 #[vP C.mb,a.ptr,vI sc,.agg #[.bool fr.strict,vI fr.vars]] w λe w'=>je C M w (yk V D fu (a.nt C.N) sc fr s) e w':=by
 refine LX ?_;intro s1 aF bN hst jx aY dh di dj z0 aC;rw[<-aC]at aY dh di dj;refine qF ?_;intro cw f5 y5 aD aW;rw[<-aF]at aD;refine qI ?_;intro z hz;rw[<-hz]at aD aW;refine Of ?_;intro eG aI bu lf lr ln g5 c0;rw[aC]at f5 y5;rw[hz,aC]at g5 c0;obtain⟨q,hq⟩:=zX l.length
 have e0:(a.nt C.N).kid 0=x.nt C.N:=wX QE;refine Yw ?_;intro R aQ;rw[<-aQ];have hR:=aQ.trans (Acw (fr:=fr) (sc:=sc) (V:=V) (D:=D) (f:=fu) (n:=a.nt C.N) hs (by rw[Zu,co];rfl) (by rw[Zb];omega));rw[<-aF,e0]at hR;clear aQ e0;refine SA ?_;intro dv HZ HLR bM dB HFz HM ft dW HO HE;refine U2 ?_;intro fK dI eu;have ah:b<=s1.steps:=Px
 have iW:s1.steps<=20000:=Px
 obtain⟨kg,J,c3,cC,aR,bO,aX,eZ⟩:=aI.row bu Qe;rw[co]at c3 cC bO;have dX:x∈a.kids:=Qe
 have k0:=bO 0 x rfl;simp only[List.length_cons,<-hq]at c3 cC
 have aq:∀W M',MFr M M' z W->vC W w.heap.size 0 (.bool fr.strict)/\vC W w.heap.size 1 (vI fr.vars)/\vC W a.b 0 (vI a.kind)/\vC W a.b 1 (.string a.text)/\vC W a.b 3 (.slice (some ⟨kg,0,none⟩) (q+1) J)/\vC W kg 0 (vP x.b):=λW M' f=>⟨(lf.fr f).cell rfl,(lf.fr f).cell rfl,(f.tree aI bu).1.c0,(f.tree aI bu).1.c1,(f.cell aI.lt bu.blk).trans c3,(f.cell aX eZ).trans k0⟩;refine Oi ?_;intro jO dM eA
 rw[jO]at dM;refine Q' ?_;intro zv eQ;rw[<-eQ]at dM eA;have d3:=(eA.cell (p:=⟨a.b,3,none⟩) aI.lt).trans c3;have d0:=(eA.cell (p:=⟨a.b,0,none⟩) aI.lt).trans aI.c0;rw[eQ,hz,aC]at d3 d0;obtain⟨lS,oT,nR⟩:=ds (show zv=_ from eQ.trans (by rw[hz,aC])) dM eA;refine Xt ?_;intro r1 bz bE an;unfold Zx at hR;rw[<-bz]at bE an hR;refine Xv ?_;intro bI HR HS;obtain⟨gZ,HB,iP⟩:=ds (hA.ext dI) ah cT;refine Zzb ?_;intro lp
 obtain⟨qZ,xl,fm,xY⟩:=en (show∀y∈l,TreeAt z B y/\y.free M from λy hy=>⟨aI.kid Rx,bu.kid Rx⟩) yO aX eZ;have pK:=lh (show∀(i:Nat) (y:ATree),l[i]?=some y->(a.nt C.N).kid (i+1)=y.nt C.N from λi y hy=>wX (by rw[co];exact hy));have Ch:=lh (show(a.nt C.N).kids.length=q+1 by rw[Zu,AC,Ym,co,hq];rfl);have HQ:=lh hq;have ni:q<=2:=Px
 have b2:(a.kind==2)=false:=PB
 have b5:(a.kind !=5)=true:=PB
 have b6:(a.kind !=6)=true:=PB
 have gh:(a.kind !=12)=true:=PB
 have b8:(a.kind !=8)=true:=PB
 have fN:decide (0<q+1)=true:=PE
 have Pd:=lh (Yu cC aR);clear hz aC aY cw aD aW eG aI bu dh di dj lf lr ln ha hf h hI aF fK dI eu ah iW aq c3 k0 bO co bz an hR hA cj cT hV dX dM eA eQ yO aX eZ hq hb c0;unfold ATree.ptr;go_enter func46,ntmps46
 go_wp2_with fail
 rw[<-lS.o];clear f5 y5 g5 d3 d0;have qB:=lh (λW M' (f:MFr M M' zv W)=>HS.o W M' ((MFr.of_below nR.o).trans f))
 refine vy (.take 0 (.take 1 (.take 2 (.take 3 (.take 4 (.take 5 (.take 6 (.take 7 (.take 8 (.go 9 (.take 10 (.take 11 (.take 12 (.go 13 (.go 14 .nil))))))))))))))) 13 (λW=>vC W w.heap.size 0 (.bool fr.strict)/\vC W w.heap.size 1 (vI fr.vars)/\vC W a.b 0 (vI a.kind)/\vC W a.b 1 (.string a.text)/\vC W a.b 3 (.slice (some ⟨kg,0,none⟩) (q+1) J)/\vC W kg 0 (vP x.b)) (qB.o _ _ (.drew (.refl _ _))) ?_;refine qa ?_
 refine o4 (λK hK=>?_);refine(bE.o _ (Zd _)).mono ?_;rintro e W0⟨M1,k1,n1,t1,bL,rfl,ah⟩;have F0:=(MFr.drew (.refl M zv)).trans ah.2.1;refine hK _ _ (qB.o _ _ F0) ?_;clear hK K;refine AcR ?_;clear ah F0;intro jv dZ pC qO;generalize((W0.setCell ⟨w.heap.size+1+1+1,0,none⟩ (vI k1)).setCell ⟨w.heap.size+1+1+1,1,none⟩ (vI n1)).setCell ⟨w.heap.size+1+1+1,2,none⟩ (.string t1)=W1 at *;obtain⟨s2,q1⟩:=r1;cases q1 with
 |error x1=>
   exact tr4
 |ok v1=>
   obtain⟨rfl,rfl⟩:v1=⟨k1,n1,t1⟩/\bL=.nilIface:=qO.o;obtain⟨i1,x1,-,em,i2⟩:=bI.o;obtain⟨eC,lg,Ng,mr⟩:=en i1 x1 em i2;have am:R=BF V D fu (a.nt C.N) sc fr (-1) ⟨k1,n1,t1⟩ s2:=HR.o;unfold BF at am;rw[Zb,rH]at am;have bA:=lh am;clear HR am i1 x1 em i2 qO bE;obtain⟨f0,f1,d0,d1,d3,nS⟩:=HS.o W1 M1 dZ.o;obtain⟨b0,b1,Dl,-,-,-⟩:=pC.o.six;have BP:=lh (λW M' (f:MFr M1 M' W1 W)=>HS.o W M' (dZ.o.trans f))
   have rM:=lh (show∀W M',MFr M1 M' W1 W->vC W (w.heap.size+1+1+1) 0 (vI k1)/\vC W (w.heap.size+1+1+1) 1 (vI n1)/\vC W (w.heap.size+1+1+1) 2 (.string t1)from
    λW M' f=>⟨(pC.o.fr f).cell rfl,(pC.o.fr f).cell rfl,(pC.o.fr f).cell rfl⟩)
   obtain⟨m0,m1,m2,-,-,-⟩:=(bM.o.fr dZ.o).six;obtain⟨q0,q1,q2,z0,z1,z2⟩:=(HLR.o.fr dZ.o).six;rcases hk with hk|hk|⟨hk,aE⟩|⟨hk,aE⟩|hk|hk|hk
   all_goals
    have am:=bA.o;rw[hk]at d0 am BP;simp at am;have HR:=lh am;have HK:=lh hk;clear hk am bA b2 b5 b6 gh b8 fN
   .exact tr2
   .exact tr2
   .obtain⟨y,hy⟩:∃y,l[0]? =some y:=⟨_,Y6 Px⟩
    have Hy:=lh hy;refine Zt8 ?_;intro ht bt cO;rw[<-cO]at ht;have HT:=lh ht;have hR:=HR.o;rw[<-cO,show(a.nt C.N).kid 1=y.nt C.N from pK.o 0 y hy]at hR;have HR:=lh hR;clear ht cO hR hy;go_wp2_with fail
    refine HT.o.mono ?_;rintro e W2⟨rfl,ar⟩;have bR:=lh (jv.o.below ar);have ba:=lh (dZ.o.trans (.of_below ar));obtain⟨f0,f1,d0,d1,d3,nS⟩:=HS.o W2 M1 ba.o;clear ar;have FZ:q=1\/q=2:=RQ
    rcases FZ with rB|rB
    all_goals
     rw[rB]at d3;have O:=lh rB;clear rB;cases bt
    .simp only[Bool.false_eq_true,if_false]at HR;have am:R=(s2,.ok (false,⟨0,0,⟨#[]⟩⟩)):=by rw[HR.o,Y5 (by rw[Ch.o,O.o];decide)];rfl
     clear HR;subst am;clear q0 q1 q2 z0 z1 z2 m0 m1 m2;exact Abw
    .simp only[if_true]at HR;refine Zyz ?_;intro HY tg bP
     have oX:=lh (show∀W M',MFr M1 M' W2 W->vC W w.heap.size 0 (.bool fr.strict)/\vC W w.heap.size 1 (vI fr.vars)/\vC W a.b 3 (.slice (some ⟨kg,0,none⟩) 2 J)/\vC W kg 1 (vP y.b)from
      λW M' f=>have g:=HS.o W M' (ba.o.trans f);⟨g.1,g.2.1,by have h:=g.2.2.2.2.1;rw[O.o]at h;exact h,((ba.o.trans f).cell fm.o xY.o).trans (lp.o 0 y Hy.o)⟩)
     go_wp2_with fail
     refine ow [(true,0),(true,1),(true,2),(true,3),(true,4),(true,5),(true,6),(true,7),(true,8),(false,9),(true,10),(true,11),(true,12)] [13,14,15] (λW=>vC W w.heap.size 0 (.bool fr.strict)/\vC W w.heap.size 1 (vI fr.vars)/\vC W a.b 3 (.slice (some ⟨kg,0,none⟩) 2 J)/\vC W kg 1 (vP y.b)) (oX.o _ _ (.drew (.refl _ _))) (λbq=>?_);exact Abk
    .simp only[Bool.false_eq_true,if_false]at HR;obtain⟨I,F8⟩:∃I,l[1]? =some I:=⟨_,Y6 (by rw[<-HQ.o,O.o];decide)⟩
     have CM:=lh F8;have hR:=HR.o;rw[Y3 (by rw[Ch.o,O.o];decide),show(a.nt C.N).kid 2=I.nt C.N from pK.o 1 I F8]at hR;have HR:=lh hR;clear hR F8;have HY:=lh (qZ.o I (Yd CM.o));have tg:=lh (ba.o.tree HY.o.1 HY.o.2);have bP:=lh (iP.o.from bR.o eC.o (gZ.o.ext lg.o) (Int.le_trans HB.o lg.o.steps) mr.o (xl.o I (Yd CM.o)).1 (xl.o I (Yd CM.o)).2 tg.o.1 tg.o.2)
     have oX:=lh (show∀W M',MFr M1 M' W2 W->vC W w.heap.size 0 (.bool fr.strict)/\vC W w.heap.size 1 (vI fr.vars)/\vC W a.b 3 (.slice (some ⟨kg,0,none⟩) 3 J)/\vC W kg 2 (vP I.b)from
      λW M' f=>have g:=HS.o W M' (ba.o.trans f);⟨g.1,g.2.1,by have h:=g.2.2.2.2.1;rw[O.o]at h;exact h,((ba.o.trans f).cell fm.o xY.o).trans (lp.o 1 I CM.o)⟩)
     go_wp2_with fail
     refine ow [(true,0),(true,1),(true,2),(true,3),(true,4),(true,5),(true,6),(true,7),(true,8),(false,9),(true,10),(true,11),(true,12)] [13,14,15] (λW=>vC W w.heap.size 0 (.bool fr.strict)/\vC W w.heap.size 1 (vI fr.vars)/\vC W a.b 3 (.slice (some ⟨kg,0,none⟩) 3 J)/\vC W kg 2 (vP I.b)) (oX.o _ _ (.drew (.refl _ _))) (λbq=>?_);refine f8 ?_;intro K hK;refine Zxv ?_;clear hK K q0 q1 q2 z0 z1 z2 m0 m1 m2;intro W3 M3 b3 k3 n3 t3 fg HB3 bK
     refine B' ?_;refine Xw ?_;intro q0 q1 q2 z0 z1 z2;obtain⟨r3,de⟩:=zX (D (I.nt C.N) sc fr s2)
     rw[<-de]at HB3;have am:R=r3:=by rw[HR.o,de]
     clear HR de;subst am;exact Aai
    .simp only[if_true]at HR;refine Zyz ?_;intro HY tg bP
     have oX:=lh (show∀W M',MFr M1 M' W2 W->vC W w.heap.size 0 (.bool fr.strict)/\vC W w.heap.size 1 (vI fr.vars)/\vC W a.b 3 (.slice (some ⟨kg,0,none⟩) 3 J)/\vC W kg 1 (vP y.b)from
      λW M' f=>have g:=HS.o W M' (ba.o.trans f);⟨g.1,g.2.1,by have h:=g.2.2.2.2.1;rw[O.o]at h;exact h,((ba.o.trans f).cell fm.o xY.o).trans (lp.o 0 y Hy.o)⟩)
     go_wp2_with fail
     refine ow [(true,0),(true,1),(true,2),(true,3),(true,4),(true,5),(true,6),(true,7),(true,8),(false,9),(true,10),(true,11),(true,12)] [13,14,15] (λW=>vC W w.heap.size 0 (.bool fr.strict)/\vC W w.heap.size 1 (vI fr.vars)/\vC W a.b 3 (.slice (some ⟨kg,0,none⟩) 3 J)/\vC W kg 1 (vP y.b)) (oX.o _ _ (.drew (.refl _ _))) (λbq=>?_);exact Abk
   .obtain⟨y,hy⟩:∃y,l[0]? =some y:=⟨_,Y6 Px⟩
    have Hy:=lh hy;have O:=lh (show q=1 by rw[HQ.o];exact aE);have hR:=HR.o;rw[show(a.nt C.N).kid 1=y.nt C.N from pK.o 0 y hy]at hR;have HR:=lh hR;clear hR hy;by_cases h5:k1=5
    .subst h5;have pO:=Ng.o.2.2.2.2 rfl;have eE:=eC.o.opens (d:=d) (outer:=sc) (object:=n1) (owner:= -2) (by have :=gZ.o.lo;omega) (by have h1:=gZ.o.hi;have h2:=lg.o.ls;omega) (Int.le_trans Py pO.1) pO.2;have eD:=Wm jv.o.drew eC.o sc n1 (-2);obtain⟨nx,ez⟩:=zX s2.next
     obtain⟨so,aU⟩:=zX (s2.opens sc n1 (-2))
     have nr:=FAt.opens (gZ.o.ext lg.o) eE.2;rw[<-aU,<-ez]at nr eD;rw[<-aU]at eE;have AN:so.steps=s2.steps:=RN
     obtain⟨r3,de⟩:=zX (D (y.nt C.N) nx fr so)
     have am:R=r3:=by
      rw[de,ez,aU];have:=HR.o;simpa using this
     obtain⟨dQ,jE,ng,F',lx,HY⟩:=gq de eD eE nr AN (qZ.o y (Yd Hy.o))
     have oX:=lh (show∀W M',MFr M1 M' W1 W->vC W w.heap.size 0 (.bool fr.strict)/\vC W w.heap.size 1 (vI fr.vars)/\vC W a.b 3 (.slice (some ⟨kg,0,none⟩) 2 J)/\vC W kg 1 (vP y.b)/\vC W (w.heap.size+1+1+1) 1 (vI n1)from
      λW M' f=>have g:=HS.o W M' (dZ.o.trans f);⟨g.1,g.2.1,by have h:=g.2.2.2.2.1;rw[O.o]at h;exact h,((dZ.o.trans f).cell fm.o xY.o).trans (lp.o 0 y Hy.o),(rM.o W M' f).2.1⟩)
     clear HR pO eE eD ez aU nr AN de;subst am;go_wp2_with fail
     refine ow [(true,0),(true,1),(true,2),(true,3),(true,4),(true,5),(true,6),(true,7),(true,8),(true,9),(true,10),(true,12),(false,11),(false,13),(true,14),(true,15),(true,16)] [17,18,19] (λW=>vC W w.heap.size 0 (.bool fr.strict)/\vC W w.heap.size 1 (vI fr.vars)/\vC W a.b 3 (.slice (some ⟨kg,0,none⟩) 2 J)/\vC W kg 1 (vP y.b)/\vC W (w.heap.size+1+1+1) 1 (vI n1)) (oX.o _ _ (.drew (.refl _ _))) (λbq=>?_)
     refine f8 ?_;intro K hK;refine jE.o.mono ?_;rintro e W2⟨rfl,M2,aM,ap⟩;have F2:=(MFr.drew (.refl M1 W1)).trans ap;refine hK _ _ (oX.o _ _ F2) ?_;clear hK K q0 q1 q2 z0 z1 z2 m0 m1 m2;have Ga:=(dZ.o.trans F2).tree HY.o.1 HY.o.2;have bP:=lh (iP.o.from aM ng.o.1 F'.o (by have h1:=HB.o;have h2:=lg.o.steps;have h3:=lx.o;omega) (by rw[lx.o];exact mr.o) (xl.o y (Yd Hy.o)).1 (xl.o y (Yd Hy.o)).2 Ga.1 Ga.2 W2 (Y2 _ _));rw[<-dQ.o]at bP;have ba:=lh (dZ.o.trans F2)
     have ji:=lh F2;clear aM ap F2 Ga;refine Ze (λK hK=>?_);go_simp
     refine bP.o.mono ?_;rintro e W3⟨M3,b3,k3,n3,t3,fg,rfl,bj⟩;refine hK _ _ (oX.o _ _ (ji.o.trans bj.2.1)) ?_;clear hK K;have HB3:=lh bj;have bK:=lh (ba.o.trans bj.2.1);clear bj;refine B' ?_;refine Xw ?_;intro q0 q1 q2 z0 z1 z2;exact Aai
    .have b5:(k1 !=5)=true:=by simp[h5]
     have am:R=(s2,.error (.thr (.say wW))):=by
      have:=HR.o;simp only[h5,if_false]at this;exact this
     clear HR h5;subst am;have HP:=lh (Sf jv.o.drew wW)
     have xP:=lh (show∀W M',MFr M1 M' W1 W->vC W (w.heap.size+1+1) 0 (vI 0)/\vC W (w.heap.size+1+1) 1 (vI 0)/\vC W (w.heap.size+1+1) 2 (.string ⟨#[]⟩)from
      λW' M' f=>⟨(bM.o.fr (dZ.o.trans f)).cell rfl,(bM.o.fr (dZ.o.trans f)).cell rfl,(bM.o.fr (dZ.o.trans f)).cell rfl⟩)
     go_wp2_with fail
     refine ow [(true,0),(false,1),(true,2)] [3,4] (λW=>vC W (w.heap.size+1+1) 0 (vI 0)/\vC W (w.heap.size+1+1) 1 (vI 0)/\vC W (w.heap.size+1+1) 2 (.string ⟨#[]⟩)) ⟨m0,m1,m2⟩ (λbq=>?_);refine f8 ?_;intro K hK;refine Ztf ?_;intro W3 fg jZ hB3 hF3';refine hK _ _ (xP.o _ _ hF3') ?_;clear hK K q0 q1 q2 z0 z1 z2 m0 m1 m2;obtain⟨q0,q1,q2,z0,z1,z2⟩:=(HLR.o.fr (dZ.o.trans hF3')).six;obtain⟨dE,bK,iN⟩:=ds (jv.o.drew.below hB3) (dZ.o.trans hF3') jZ
     clear hF3' jZ hB3;refine oK ?_;refine Z0 ?_;go_wp2;refine Yp (v:=.tuple #[.bool false,.agg #[vI 0,vI 0,.string ⟨#[]⟩],fg]) ?_ rfl ?_;·exact yC
     .exact Wu
   .have am:R=(s2,.ok (true,⟨k1,n1,t1⟩)):=HR.o;clear HR;subst am;go_wp2_with fail
    refine ow [(true,0),(true,1)] [2,3] (λW=>vC W (w.heap.size+1+1+1) 0 (vI k1)/\vC W (w.heap.size+1+1+1) 1 (vI n1)/\vC W (w.heap.size+1+1+1) 2 (.string t1)) (rM.o _ _ (.drew (.refl _ _))) (λbq=>?_);refine oK ?_;refine Z0 ?_;go_wp2;refine Yp (v:=.tuple #[.bool true,.agg #[vI k1,vI n1,.string t1],.nilIface]) ?_ rfl ?_;·exact yC
    .exact .fine' HLR.o HFz.o jv.o.drew (dZ.o.trans (.drew (.refl _ _)))
   .have am:R=(s2,.error (.thr ⟨k1,n1,t1⟩)):=HR.o;clear HR;subst am;have iR:w.heap.size+1+1≠w.heap.size+1:=by omega
    have cG:w.heap.size+1+1+1≠w.heap.size+1:=Px
    have Pe:=(HLR.o.fr dZ.o).lt;go_wp2_with fail
    refine vy (.take 0 (.take 1 (.take 2 (.take 5 (.two 3 (.take 4 (.go 6 (.go 7 .nil))) 6 (.go 3 (.take 4 (.go 7 .nil)))))))) 7 (λW=>vC W (w.heap.size+1+1) 0 (vI 0)/\vC W (w.heap.size+1+1) 1 (vI 0)/\vC W (w.heap.size+1+1) 2 (.string ⟨#[]⟩)/\vC W (w.heap.size+1+1+1) 0 (vI k1)/\vC W (w.heap.size+1+1+1) 1 (vI n1)/\vC W (w.heap.size+1+1+1) 2 (.string t1)) ⟨m0,m1,m2,b0,b1,Dl⟩ ?_;refine qa ?_
    have J0:∀W,MFr M1 M1 W1 W->∀x0 x1 x2,(Lo C M1 w ((((W.setCell ⟨w.heap.size+1,0,none⟩ x0).setCell ⟨w.heap.size+1,1,none⟩ x1).setCell ⟨w.heap.size+1,2,none⟩ x2)) (w.heap.size+1+1) #[vI 0,vI 0,.string ⟨#[]⟩] 56)/\
     Lo C M1 z ((((W.setCell ⟨w.heap.size+1,0,none⟩ x0).setCell ⟨w.heap.size+1,1,none⟩ x1).setCell ⟨w.heap.size+1,2,none⟩ x2)) (w.heap.size+1+1+1) #[vI k1,vI n1,.string t1] 56:=λW f x0 x1 x2=>
     ⟨(((bM.o.fr (dZ.o.trans f)).apart iR 0 x0).apart iR 1 x1).apart iR 2 x2,(((pC.o.fr f).apart cG 0 x0).apart cG 1 x1).apart cG 2 x2⟩
    have J1:=lh J0;clear J0 q0 q1 q2 z0 z1 z2;refine Zr ?_;apply Ab4 (H:=Aac C M w s2 M1 (w.heap.size+1) ⟨k1,n1,t1⟩)
    .intro ca;refine o4 (λK hK=>?_);have CN:=(Z1 W1 (lL ⟨k1,n1,t1⟩)).drew;have U:MFr M1 M1 W1 (W1.alloc (lL ⟨k1,n1,t1⟩)).drew:=.of_below CN;refine hK _ _ ⟨(bM.o.fr (dZ.o.trans U)).cell rfl,(bM.o.fr (dZ.o.trans U)).cell rfl,(bM.o.fr (dZ.o.trans U)).cell rfl,rM.o _ _ U⟩ ?_;clear hK K;obtain⟨W2,u⟩:=zX ((W1.alloc (lL ⟨k1,n1,t1⟩)).drew)
     have J2:ax C M1 W2 (.thr ⟨k1,n1,t1⟩) (rD W1.heap.size):=⟨_,rfl,by rw[u];exact Yq W1 _,jv.o.fresh (Y0 _)⟩
     rw[<-u]at CN U;unfold lL LVal.arr at u;simp only at u;obtain⟨nL,ba,aN,fq⟩:=en J2 U CN u;obtain⟨q0,q1,q2,z0,z1,z2⟩:=(HLR.o.fr (dZ.o.trans ba.o)).six;rw[<-fq.o];clear J2 U CN u;refine Ux ?_;refine o4 (λK hK=>?_);have m:=J1.o W2 ba.o (vI 0) (vI 0) (.string ⟨#[]⟩);refine hK _ _ ⟨m.1.cell rfl,m.1.cell rfl,m.1.cell rfl,m.2.cell rfl,m.2.cell rfl,m.2.cell rfl⟩ ?_;clear hK K m;try simp only[Act.put,zA,zB,zC]
     refine Vu ?_;obtain⟨g1,g2,g3,g4⟩:=(HLR.o.fr (dZ.o.trans ba.o)).fill (x':=(vI 0)) (y':=(vI 0)) (z':=.string ⟨#[]⟩) (jv.o.below aN.o) (HFz.o.trans (dZ.o.trans ba.o)) HLR.o.late;have F:Aac C M w s2 M1 (w.heap.size+1) ⟨k1,n1,t1⟩ _ W1.heap.size:=⟨g1,g2,g4 _ _ nL.o,g3⟩
     clear g1 g2 g3 g4 q0 q1 q2 z0 z1 z2;generalize((W2.setCell ⟨w.heap.size+1,0,none⟩ (vI 0)).setCell ⟨w.heap.size+1,1,none⟩ (vI 0)).setCell ⟨w.heap.size+1,2,none⟩ (.string ⟨#[]⟩)=W3 at F ⊢;generalize W1.heap.size=Y at F ⊢;exact ca.o W3 Y F
    .intro ca;obtain⟨q0,q1,q2,z0,z1,z2⟩:=(HLR.o.fr dZ.o).six;refine o4 (λK hK=>?_);obtain⟨W2,u⟩:=zX (((W1.setCell ⟨w.heap.size+1,0,none⟩ (vI 0)).setCell ⟨w.heap.size+1,1,none⟩ (vI 0)).setCell ⟨w.heap.size+1,2,none⟩ (.string ⟨#[]⟩))
     have m:=J1.o W1 (.refl _ _) (vI 0) (vI 0) (.string ⟨#[]⟩);have aZ:W2.heap.size=W1.heap.size:=by rw[u];simp[World.setCell]
     obtain⟨g1,g2,g3,g4⟩:=(HLR.o.fr dZ.o).fill (x':=(vI 0)) (y':=(vI 0)) (z':=.string ⟨#[]⟩) jv.o (HFz.o.trans dZ.o) HLR.o.late;rw[<-u]at m g1 g2 g3;have hB3:=(Z1 W2 (lL ⟨k1,n1,t1⟩)).drew;have F:Aac C M w s2 M1 (w.heap.size+1) ⟨k1,n1,t1⟩ (W2.alloc (lL ⟨k1,n1,t1⟩)).drew W1.heap.size:=
      ⟨g1.below hB3,g2.trans (.of_below hB3),⟨_,rfl,by rw[<-aZ];exact Yq W2 _,by rw[<-aZ];exact g1.fresh (Y0 _)⟩,g3.fr (.of_below hB3)⟩
     unfold lL LVal.arr at F;simp only at F;have Z:=lh F;have fq:=lh u;have zh:=Yu (m.1.cell (i:=0) rfl) (Yu (m.1.cell (i:=1) rfl) (Yu (m.1.cell (i:=2) rfl) (Yu (m.2.cell (i:=0) rfl) (Yu (m.2.cell (i:=1) rfl) (m.2.cell (i:=2) rfl)))));have sP:=m.1.bel (Z1 W2 (lL ⟨k1,n1,t1⟩));have sQ:=m.2.bel (Z1 W2 (lL ⟨k1,n1,t1⟩))
     have wg:=Yu (sP.cell (i:=0) rfl) (Yu (sP.cell (i:=1) rfl) (Yu (sP.cell (i:=2) rfl) (Yu (sQ.cell (i:=0) rfl) (Yu (sQ.cell (i:=1) rfl) (sQ.cell (i:=2) rfl)))));unfold lL LVal.arr at wg;simp only at wg;have iB:=lh wg;rw[u]at zh;refine hK _ _ zh ?_;clear hK K m g1 g2 g3 g4 u zh q0 q1 q2 z0 z1 z2 hB3 F wg sP sQ aZ;refine UV ?_;intro K hK;rw[<-fq.o];refine hK _ _ iB.o ?_;clear hK K;refine Ux ?_;refine Vu ?_;have F:=Z.o;clear Z
     generalize(W2.alloc (.cells #[vI k1,vI n1,.string t1] 76)).drew=W3 at F ⊢;generalize W1.heap.size=Y at F ⊢;exact ca.o W3 Y F
    .intro W3 Y F;obtain⟨r0,r1,r2,-,-,-⟩:=F.2.2.2.six;have Z:=lh F;clear F;go_wp2;refine Yp (v:=.tuple #[.bool false,.agg #[vI 0,vI 0,.string ⟨#[]⟩],rD Y]) ?_ rfl ?_;·simp[results,results46,go_sem,r0,r1,r2,rD]
     .exact⟨M1,Z.o.1,Z.o.2.1,false,LVal.zero,rD Y,rfl,Z.o.2.2.1⟩
   .have am:R=({s2 with last:=⟨k1,n1,t1⟩},.ok (false,⟨0,0,⟨#[]⟩⟩)):=HR.o;clear HR;subst am;have AO:=jv.o.cell 14 (vI s2.last.kind) PI;have AP:=jv.o.cell 15 (vI s2.last.n) PI;have AQ:=jv.o.cell 16 (.string s2.last.s) PI;have CO:=jv.o.fz 14;have CQ:=jv.o.fz 15;have CR:=jv.o.fz 16;obtain⟨g1,g2⟩:=Zd5 jv.o ⟨k1,n1,t1⟩;obtain⟨W2,u⟩:=zX (((W1.setCell ⟨C.mb,14,none⟩ (vI k1)).setCell ⟨C.mb,15,none⟩ (vI n1)).setCell ⟨C.mb,16,none⟩ (.string t1))
    simp only at g1 g2;rw[<-u]at g1 g2;obtain⟨bR,ba,fq⟩:=ds g1 (dZ.o.trans g2) u;clear g1 g2 u;go_wp2_with fail
    rw[<-fq.o];clear q0 q1 q2 z0 z1 z2 m0 m1 m2 f0 f1 d0 d1 d3 nS b0 b1 Dl AO AP AQ CO CQ CR;refine UK ?_;intro m0 m1 m2 q0 q1 q2 z0 z1 z2;exact tq8
end
section
variable {C:RCtx}{M M1:MRep}{w z W:kV}{s:MSt}{B:Nat}{a x0:ATree}{l:List ATree}{V:VF}{D:DF}{b sc:Int}{fr:Frm}{d:Nat}{A:Act}{K:Act->kV->Prop}{M2:MRep}{W2:kV}{RR:MSt×Except Er LVal}
def Ze1(h:MAt C M w s)(c:Int):MAt C M (w.setCell ⟨C.mb,13,none⟩ (vI c)) {s with calls:=c}/\MFr M M w (w.setCell ⟨C.mb,13,none⟩ (vI c)):=
 h.scalar Py rfl rfl rfl rfl rfl (λi hi=>by match i,hi with
  |0,_=>decide
  |1,_=>decide
  |2,_=>decide
  |3,_=>decide) ⟨_,h.cell 13 (vI s.calls) PI⟩ (λo x hx=>by
  simp only[lR,List.mem_cons,Prod.mk.injEq,List.not_mem_nil,or_false]at hx ⊢;rcases hx with h|h|h|h|h|h|h|h|h|h|h<;>(obtain⟨rfl,rfl⟩:=h;simp))
def Zlz(h:MAt C M W s){mx p:Nat}{g m:Int}{lt:kB}(lm:Lo C M w W mx #[vP C.mb] 46)(y:Lo C M w W p #[vI g,vI m,.string lt] 56)(mf:0<=s.calls/\s.calls<=41)(u:FrameMode) :
 CallsD Tryz.prog 143 #[vP mx,vP p] u W λe X w'=>X=u/\(e=.returned (.tuple #[])/\Does C M W {s with calls:=s.calls-1,last:=⟨g,m,lt⟩} w'):=by
 obtain⟨F,I⟩:=Ze1 h (s.calls-1);obtain⟨J,O⟩:=Zd5 F ⟨g,m,lt⟩;have U:=lh (show Does C M W {s with calls:=s.calls-1,last:=⟨g,m,lt⟩} _ from⟨M,J,I.trans O⟩);dsimp only at U
 have m0:=lm.cell (i:=0) rfl;obtain⟨b0,b1,b2,-,-,-⟩:=y.six;have dI:mx≠C.mb:=λe=>lm.free (e▸h.mbHas);have sq:p≠C.mb:=λe=>y.free (e▸h.mbHas);have CS:=h.cell 13 (vI s.calls) PI;have AR:=h.cell 14 (vI s.last.kind) PI;have AS:=h.cell 15 (vI s.last.n) PI;have tS:=h.cell 16 (.string s.last.s) PI;have J3:=h.fz 13;have CO:=h.fz 14;have CQ:=h.fz 15;have CR:=h.fz 16;have Y:IntKind.i64.wrap (s.calls-1)=s.calls-1:=IntWalk.i64_in _ Px
 obtain⟨kc,Z⟩:=zX (s.calls-1)
 rw[<-Z]at Y;clear F I J O h lm y;go_enter_d func143,ntmps143
 go_wp2;go_end0
 exact⟨rfl,U.o⟩
def Zia(hc:CaC C M w z a x0 l B fr){r:MSt×Except Er LVal}(X:MAt C M2 W2 r.1)(m:MFr M M2 z W2)(Nh:r.1.calls=s.calls+1)(mf:0<=s.calls/\s.calls<=40){g:Nat}(Y:Lo C M2 w W2 g #[vI s.last.kind,vI s.last.n,.string s.last.s] 56)
 (hp:g≠w.heap.size+1+1)(F:RR=T4 s r){k n:Int}{t:kB}{ev:Value}(I:match r.2 with| .ok v=>v=⟨k,n,t⟩/\ev=.nilIface| .error x=>ax C M2 W2 x ev){p:Array Value}
 (J:p.getD 8 undef=.pointer (some ⟨w.heap.size+1+1,0,none⟩))(O:p.getD 9 undef=ev) :
 Go.Leaves Tryz.prog f133 p (λe w'=>cK C M w RR e w') [{target:=.fn (.func 143) #[vP w.heap.size,vP g],args:=#[]}] .returning
  (((W2.setCell ⟨w.heap.size+1+1,0,none⟩ (vI k)).setCell ⟨w.heap.size+1+1,1,none⟩ (vI n)).setCell ⟨w.heap.size+1+1,2,none⟩ (.string t)):=by
 have Z:=hc.lr.fr m;have Nk:=hc.lm.fr m;have fw:=(MFr.of_below (M:=M) hc.below).trans m;obtain⟨g1,g2,g3,g4⟩:=Z.fill (x':=(vI k)) (y':=(vI n)) (z':=.string t) X fw Px;have u:w.heap.size≠w.heap.size+1+1:=Px
 have Nl:=((Nk.beside (c':=#[]) (T':=0) u 0 (vI k)).beside (c':=#[]) (T':=0) u 1 (vI n)).beside (c':=#[]) (T':=0) u 2 (.string t);have Gb:=((Y.beside (c':=#[]) (T':=0) hp 0 (vI k)).beside (c':=#[]) (T':=0) hp 1 (vI n)).beside (c':=#[]) (T':=0) hp 2 (.string t);generalize((W2.setCell ⟨w.heap.size+1+1,0,none⟩ (vI k)).setCell ⟨w.heap.size+1+1,1,none⟩ (vI n)).setCell ⟨w.heap.size+1+1,2,none⟩ (.string t)=W3 at *
 refine leaves_cons (f:=143) (args:=#[vP w.heap.size,vP g]) PE (by simp[go_sem]) ?_;refine(Zlz g1 Nl Gb Px .returning).mono ?_;rintro e u' w4⟨rfl,rfl,U,fC,y⟩;obtain⟨q0,q1,q2,-,-,-⟩:=(g3.fr y).six;refine⟨.tuple #[.agg #[vI k,vI n,.string t],ev],?_,?_⟩
 .rw[Array.getD_eq_getD_getElem?]at J O;simp[results,results133,go_sem,J,O,q0,q1,q2]
 .have hs:({r.1 with calls:=r.1.calls-1,last:=s.last}:MSt)=(T4 s r).1:=rfl;have l9:MAt C U w4 (T4 s r).1:=fC;refine⟨U,by rw[F];exact l9,g2.trans y,?_⟩;rw[F];obtain⟨s9,q9⟩:=r;cases q9 with
  |error x9=>exact⟨⟨k,n,t⟩,ev,rfl,(g4 _ _ I).fr y⟩
  |ok v9=>
    obtain⟨rfl,rfl⟩:=I;rfl
end
noncomputable def iy(p:List Nat):Code:=Ip p (f144.body.getD .skip)
structure EnC(C:RCtx)(M:MRep)(w z:kV)(x:CloR)(pn bd:ATree)(B:Nat)(v:Value)(vs:List LVal):Prop where
 ok:C.Ok
 old:C.w0.heap.size<=w.heap.size
 below:kW w z
 lc:Lo C M w z w.heap.size #[x.a.ptr,vI x.scope,.bool x.strict] 117
 lr:Lo C M w z (w.heap.size+1) #[vI 0,vI 0,.string ⟨#[]⟩] 56
 tr:TreeAt z B x.a
 fre:x.a.free M
 kids:x.a.kids=[pn,bd]
 row:∃wA,VRow C M wA z v vs
 few:vs.length<=1500
 fo:KU (x.a.nt C.N)
def tL(C:RCtx)(w:kV)(v:Value)(nx:Int)(bd:ATree)(l:List (Nat×Value)):List (Nat×Value):=
 (0,vP C.mb)::(2,v)::(4,vP w.heap.size)::(6,.pointer (some ⟨w.heap.size+1,0,none⟩))::(8,vI nx)::(9,vP bd.b)::l
section
variable {C:RCtx}{M M1:MRep}{w z W:kV}{s:MSt}{B:Nat}{x:CloR}{pn bd:ATree}{v:Value}{vs:List LVal}{nx:Int}{d:Nat}{A:Act}{K:Act->kV->Prop}{Q:Exit->Act->kV->Prop}
def EnC.two(h:EnC C M w z x pn bd B v vs):∃g m,2<=m/\m<=9223372036854775807/\∀u W,MFr M u z W->vC W w.heap.size 0 (vP x.a.b)/\vC W x.a.b 3 (.slice (some ⟨g,0,none⟩) 2 m)/\
 vC W g 0 (vP pn.b)/\W.cell? ⟨g,1,none⟩=some (vP bd.b):=by
 obtain⟨g,m,c3,h1,F,p,y,h5⟩:=h.tr.row h.fre QR;rw[h.kids]at c3 h1 p;refine⟨g,m,h1,F,λu W f=>⟨(h.lc.fr f).cell rfl,(f.cell h.tr.lt h.fre.blk).trans c3,(f.cell y h5).trans (p 0 pn rfl),(f.cell y h5).trans (p 1 bd rfl)⟩⟩
theorem EnC.pnT(h:EnC C M w z x pn bd B v vs):TreeAt z B pn/\pn.free M:=⟨h.tr.kid QR,h.fre.kid QR⟩
theorem EnC.bdT(h:EnC C M w z x pn bd B v vs):TreeAt z B bd/\bd.free M:=⟨h.tr.kid QR,h.fre.kid QR⟩
theorem Za1{sc:Int}{p:NT}{l:List NT}{vs:List LVal}{s:MSt}:MSt.params sc (p::l) vs s=MSt.params sc l vs.tail (s.bindTo sc p.text (vs.headD LVal.zero)):=rfl
def Zo0(hc:EnC C M w z x pn bd B v vs)(hM:MAt C M1 W s)(hF:MFr M M1 z W)(hI:Inv s (d+pn.kids.length))(hv:∀u∈vs,VQ s u)(hn:pn.kids.length<=1500)(fr:FrA 240 (tL C w v nx bd []) [] A)
 (HK:∀A' W' M',FrA 240 (tL C w v nx bd []) [] A'->MAt C M' W' (MSt.params nx (pn.kids.map (ATree.nt C.N)) vs s)->MFr M1 M' W W'->K A' W')(hQ:∀c a d v w,Q (.panic c) (Act.put a d v) w->Q (.panic c) a w) :
 (iy [1,1,1,0]).wp Tryz.prog (Exit.then K Q) A W:=by
 obtain⟨S,hS⟩:=zX (MSt.params nx (pn.kids.map (ATree.nt C.N)) vs s)
 rw[<-hS]at HK;obtain⟨wA,ae⟩:=hc.row;obtain⟨pv,cv,gV,jN,iM,iH⟩:=ae.form;obtain⟨kg,kc,AJ,yZ,hk⟩:=hc.two;have hpt:=hc.pnT;obtain⟨pp,cp,cg,bU,ej,cU⟩:=ll.slice hpt.1.rowOf;have vZ:=(hF.tree hpt.1 hpt.2).1.c3;rw[cg]at vZ;obtain⟨f0,f1,f2,f3⟩:=hk M1 W hF;have HO:=lh (Y4 (Y4 hc.old hc.below.size) hF.size);have qv:=lh cg;refine AaS ?_;intro pG;obtain⟨tU,J4,HKK,fA,HM,HV⟩:=gq cU (hF.tree hpt.1 hpt.2) HK hQ hM hv;obtain⟨P,hP⟩:=zX pn.kids
 obtain⟨q,hq⟩:=zX P.length
 obtain⟨n,bF⟩:=zX vs.length
 have DX:=lh (show n<=1500 by rw[bF];exact hc.few);rw[<-hP,<-hq]at hI vZ bU hn;rw[<-hP]at hS tU;rw[<-bF]at gV jN;obtain⟨ii,HS,HP,HQ,HN⟩:=gp hI hS hP hq bF;unfold maxLen at iM;unfold tL at fr;subst gV;obtain⟨xt,rfl,e0,e2,e4,e6,e8,e9,-⟩:=U9 fr;rw[e0,e2,e4,e6,e8,e9];clear e0 e2 e4 e6 e8 e9 fr hc hM hF hI hv HK hQ hS ae iH hk hpt cg cU hP hq bF;conv=>arg 2;whnf
 go_wp2_with fail
 clear f0 f1 f2 f3 vZ;go_loopw [56] (λi wr=>∃(k:Nat) (Y:MRep) (m:MSt),k<=q/\i=(vI k)/\Hid (MAt C Y wr m)/\Hid (MFr M1 Y W wr)/\Hid (Inv m (d+(q-k)))/\Hid (Ext s m)/\Hid (S=MSt.params nx ((P.drop k).map (ATree.nt C.N)) (vs.drop k) m)) (λi _=>q-(intOf i).toNat)
 case atStart=>exact⟨0,M1,s,Yh _,rfl,HM,lh (.refl _ _),ii,lh (.refl _),HS⟩
 case round=>
  obtain⟨k,Y,m,hk,rfl,HMk,J,ep,dG,HRk⟩:=hrel;by_cases bX:k<q
  .obtain⟨y,hy⟩:∃y,P[k]? =some y:=⟨_,Y6 QH⟩
   obtain⟨g0,hp⟩:=tU.o k y hy;subst hp;have ex:y∈pn.kids:=by rw[<-HP.o];exact Yd hy
   have dP:=J.o.tree J4.o.1 J4.o.2;have ae:=dP.1.rowOf;rw[qv.o]at ae;have cx:wr.cell? ⟨g0,k,none⟩=some (vP y.b):=ll.cell ae (b:=g0) rfl (by rw[<-HP.o];exact hy);have e9:P.drop k=y::P.drop (k+1):=by
    exact Zzp
   have CT:=lh (Yu (dP.1.kid ex) (dP.2.kid ex));have aO:=Z1 wr (.cells #[vI 0,vI 0,.string ⟨#[]⟩] 56);have tV:=Lo.new (wE:=W) HMk.o J.o.size HO.o #[vI 0,vI 0,.string ⟨#[]⟩] 56;have bT:=lh (HMk.o.below aO);have bw:=lh (MFr.of_below (M:=Y) aO);clear dP ae ex hy aO;rcases t8:vs[k]? with _|u
   .have CE:¬k<n:=by rw[HN.o];exact λh=>by rw[Y6 h]at t8;cases t8
    have ua:vs.drop k=[]:=List.drop_eq_nil_of_le QJ;have Gc:vs.drop (k+1)=[]:=List.drop_eq_nil_of_le QJ;have jY:LVal.zero.ok m.H.objects.length:=sn _;have jS:=lh tV;clear tV t8;go_wp2_with fail
    clear CE;have O:=jS.o;have Z:=bT.o;have X:=bw.o;clear jS bT bw;generalize wr.alloc (.cells #[vI 0,vI 0,.string ⟨#[]⟩] 56)=W2 at O Z X ⊢;generalize wr.heap.size=p at O Z X ⊢;obtain⟨gS,bR,ba⟩:=ds O Z X
    have nN:=lh (show∀W' M',MFr Y M' W2 W'->vC W' y.b 1 (.string y.text)/\vC W' p 0 (vI 0)/\vC W' p 1 (vI 0)/\vC W' p 2 (.string ⟨#[]⟩)from
     λW' M' f=>⟨((X.trans f).tree CT.o.1 CT.o.2).1.c1,(O.fr f).cell rfl,(O.fr f).cell rfl,(O.fr f).cell rfl⟩)
    have ei:=Z5b (d:=d+(q-(k+1))) (sc:=nx) (name:=y.text) (v:=LVal.zero) (ep.o.less Px) jY;obtain⟨cd,gi⟩:=zX ((m.H.declare nx y.text 0 LVal.zero).2)
    have eV:=Vp Z.drew ep.o nx y.text 0 LVal.zero;have qC:=λ(W':kV) (M':MRep) (h:MAt C M' W' m)=>Zf0 h ep.o nx y.text LVal.zero;simp only[LVal.agg]at eV qC;rw[<-gi]at eV;have lZ:=lh eV;have AT:=lh qC;obtain⟨sb,aK⟩:=zX (m.bindTo nx y.text LVal.zero)
    have U:=HRk.o;rw[e9,ua,List.map_cons,Za1,rH]at U;rw[show([]:List LVal).tail=vs.drop (k+1)from Gc.symm,show([]:List LVal).headD LVal.zero=LVal.zero from rfl]at U;rw[<-aK]at ei U;obtain⟨bA,ti,tj,cE,qD,dZ⟩:=gq U ei.1 (dG.o.trans ei.2) aK gi (J.o.trans X);clear O Z X ei eV qC gi aK U jY cx e9 ua
    refine Z9 [(true,0),(true,1),(true,2),(true,3),(true,4),(true,5),(true,6),(true,7),(true,8)] [9,10] (λW=>vC W y.b 1 (.string y.text)/\vC W p 0 (vI 0)/\vC W p 1 (vI 0)/\vC W p 2 (.string ⟨#[]⟩)) Pz Pz (λc a d v w h=>fA.o c a d v w h) (nN.o _ _ (.drew (.refl _ _))) (λbq=>?_);refine oK ?_;refine Z0 ?_;go_wp2_with fail
    refine lZ.o.mono ?_;rintro e W3⟨rfl,M3,dC,bg⟩;have bK:=lh ((MFr.drew (.refl Y W2)).trans bg);by_cases fZ:cd=0
    .have cF:m.declare nx y.text 0 LVal.zero=sb:=by rw[cE.o];unfold MSt.bindTo;rw[Y5 (qD.o▸fZ)]
     rw[cF]at dC;have dE:=lh dC;exact YZ
    .have cF:m.declare nx y.text 0 LVal.zero=m:=by unfold MSt.declare;rw[Z6x (qD.o▸fZ)];rfl
     have iT:m.write nx y.text LVal.zero=sb:=Qj
     rw[cF]at dC;have hw:=AT.o _ _ dC.drew;rw[iT]at hw;have HW:=lh hw;rw[show da cd=.iface 44 (vI cd) by unfold da;rw[Y3 fZ]];clear dC bg cF iT fZ hw;go_wp2_with fail
     refine Z9 [(true,0),(true,1),(true,2),(true,3),(true,4),(true,5),(true,6),(true,7),(true,8)] [9] (λW=>vC W y.b 1 (.string y.text)/\vC W p 0 (vI 0)/\vC W p 1 (vI 0)/\vC W p 2 (.string ⟨#[]⟩)) Pz Pz (λc a d v w h=>fA.o c a d v w h) (nN.o _ _ (bK.o.trans (.drew (.refl _ _)))) (λbq=>?_);exact Aae
   .have CE:k<n:=by rw[HN.o];exact(List.getElem?_eq_some_iff.1 t8).1
    have ua:vs.drop k=u::vs.drop (k+1):=by
     obtain⟨h1,h2⟩:=List.getElem?_eq_some_iff.1 t8;rw[Yt h1,h2]
    have jY:u.ok m.H.objects.length:=VQ.ext (HV.o u (Yd t8)) dG.o;obtain⟨gv,sR,fL⟩:=pG.o k u t8;subst sR;obtain⟨F,I,us⟩:=u;obtain⟨b0,b1,b2⟩:=fL Y (wr.alloc (.cells #[vI 0,vI 0,.string ⟨#[]⟩] 56)) (J.o.trans bw.o);simp only at b0 b1 b2;have jS:=lh (Lo.new (wE:=W) HMk.o J.o.size HO.o #[vI F,vI I,.string us] 56);have hB3:=Z1 wr (.cells #[vI F,vI I,.string us] 56);have dE:=lh (HMk.o.below hB3);have bK:=lh (MFr.of_below (M:=Y) hB3);clear fL t8 tV hB3
    go_wp2_with fail
    clear CE;have O:=jS.o;have Z:=dE.o;have X:=bK.o;clear jS bT bw dE bK b0 b1 b2;generalize wr.alloc (.cells #[vI F,vI I,.string us] 56)=W2 at O Z X ⊢;generalize wr.heap.size=p at O Z X ⊢;obtain⟨gS,bR,ba⟩:=ds O Z X
    have nN:=lh (show∀W' M',MFr Y M' W2 W'->vC W' y.b 1 (.string y.text)/\vC W' p 0 (vI F)/\vC W' p 1 (vI I)/\vC W' p 2 (.string us)from
     λW' M' f=>⟨((X.trans f).tree CT.o.1 CT.o.2).1.c1,(O.fr f).cell rfl,(O.fr f).cell rfl,(O.fr f).cell rfl⟩)
    have ei:=Z5b (d:=d+(q-(k+1))) (sc:=nx) (name:=y.text) (v:=⟨F,I,us⟩) (ep.o.less Px) jY;obtain⟨cd,gi⟩:=zX ((m.H.declare nx y.text 0 ⟨F,I,us⟩).2)
    have eV:=Vp Z.drew ep.o nx y.text 0 ⟨F,I,us⟩;have qC:=λ(W':kV) (M':MRep) (h:MAt C M' W' m)=>Zf0 h ep.o nx y.text ⟨F,I,us⟩;simp only[LVal.agg]at eV qC;rw[<-gi]at eV;have lZ:=lh eV;have AT:=lh qC;obtain⟨sb,aK⟩:=zX (m.bindTo nx y.text ⟨F,I,us⟩)
    have U:=HRk.o;rw[e9,ua,List.map_cons,Za1,rH]at U;rw[show((⟨F,I,us⟩:LVal)::vs.drop (k+1)).tail=vs.drop (k+1)from rfl,show((⟨F,I,us⟩:LVal)::vs.drop (k+1)).headD LVal.zero=⟨F,I,us⟩from rfl]at U;rw[<-aK]at ei U;obtain⟨bA,ti,tj,cE,qD,dZ⟩:=gq U ei.1 (dG.o.trans ei.2) aK gi (J.o.trans X);clear O Z X ei eV qC gi aK U jY cx e9 ua
    refine Z9 [(true,0),(true,1),(true,2),(true,3),(true,4),(true,5),(true,6),(true,7),(true,8)] [9,10] (λW=>vC W y.b 1 (.string y.text)/\vC W p 0 (vI F)/\vC W p 1 (vI I)/\vC W p 2 (.string us)) Pz Pz (λc a d v w h=>fA.o c a d v w h) (nN.o _ _ (.drew (.refl _ _))) (λbq=>?_);refine oK ?_;refine Z0 ?_;go_wp2_with fail
    refine lZ.o.mono ?_;rintro e W3⟨rfl,M3,dC,bg⟩;have bK:=lh ((MFr.drew (.refl Y W2)).trans bg);by_cases fZ:cd=0
    .have cF:m.declare nx y.text 0 ⟨F,I,us⟩=sb:=by rw[cE.o];unfold MSt.bindTo;rw[Y5 (qD.o▸fZ)]
     rw[cF]at dC;have dE:=lh dC;exact YZ
    .have cF:m.declare nx y.text 0 ⟨F,I,us⟩=m:=by unfold MSt.declare;rw[Z6x (qD.o▸fZ)];rfl
     have iT:m.write nx y.text ⟨F,I,us⟩=sb:=Qj
     rw[cF]at dC;have hw:=AT.o _ _ dC.drew;rw[iT]at hw;have HW:=lh hw;rw[show da cd=.iface 44 (vI cd) by unfold da;rw[Y3 fZ]];clear dC bg cF iT fZ hw;go_wp2_with fail
     refine Z9 [(true,0),(true,1),(true,2),(true,3),(true,4),(true,5),(true,6),(true,7),(true,8)] [9] (λW=>vC W y.b 1 (.string y.text)/\vC W p 0 (vI F)/\vC W p 1 (vI I)/\vC W p 2 (.string us)) Pz Pz (λc a d v w h=>fA.o c a d v w h) (nN.o _ _ (bK.o.trans (.drew (.refl _ _)))) (λbq=>?_);exact Aae
  .have aR:k=q:=by omega
   subst aR;have U:=HRk.o;rw[List.drop_eq_nil_of_le QT]at U;have am:S=m:=U;go_wp2_with fail
   exact HKK.o _ _ Y ⟨rfl,⟨rfl,rfl,rfl,rfl,rfl,rfl,trivial⟩,rfl⟩ QL J.o
theorem Zf8:Za.toList=[97,114,103,117,109,101,110,116,115]:=by kernel_rfl
def Zuk(hc:EnC C M w z x pn bd B v vs)(I:MFr M M1 z W)(hn:bd.kids.length<=1500){o:Bool}(fr:FrA 240 (tL C w v nx bd [(13,.bool o)]) [] A)
 (HK:∀J O,FrA 240 (tL C w v nx bd [(13,.bool (o||(bd.nt C.N).funcs.any λk=>Zg k.text Za))]) [] J->kW W O->K J O) :
 (iy [1,1,1,1,1,0]).wp Tryz.prog (Exit.then K Q) A W:=by
 rw[ZS]at HK;have m:=hc.bdT;have p:=I.tree m.1 m.2;have HL:=lh (YN W B bd p.1 Px);obtain⟨P,hP⟩:=zX (bd.kids.filter xk)
 rw[<-hP]at HL HK;refine Zwf ?_;intro nj;have U:=lh p.1;have HKK:=lh HK;unfold tL at fr;obtain⟨pv,nv,cv,rfl⟩:∃pv nv cv,v=.slice pv nv cv:=by
  exact Ms
 obtain⟨xt,rfl,X,Y,Z,e6,e8,e9,uc,-⟩:=U9 fr;rw[X,Y,Z,e6,e8,e9,uc];clear X Y Z e6 e8 e9 uc fr hc I HK m p hP;unfold ATree.ptr at HL;conv=>arg 2;whnf
 go_wp2_with fail
 refine HL.o.mono ?_;rintro e w2⟨v2,rfl,g,F⟩;obtain⟨p2,jR,rfl,dF,fQ,dc⟩:=g.slice;refine Og ?_;intro q cS ni;rw[<-cS]at dF g ⊢;obtain⟨N2,gR,HQ1,aN,gy⟩:=gp g dc cS F (U.o.bel F);clear g F dc cS HL U;go_wp2_with fail
 go_loopw [13,99] (λu i wr=>∃(k:Nat) (c:Bool),k<=q/\u=.bool c/\i=(vI k)/\wr=w2/\Hid ((o||(P.map (ATree.nt C.N)).any λk=>Zg k.text Za)=(c||((P.drop k).map (ATree.nt C.N)).any λk=>Zg k.text Za))) (λ_ i _=>q-(intOf i).toNat)
 case atStart=>exact⟨0,o,Yh _,rfl,rfl,rfl,lh (by rw[List.drop_zero])⟩
 case round=>
  exact AcD
def Zu1(hc:EnC C M w z x pn bd B v vs)(I:MFr M M1 z W)(hn:bd.kids.length<=1500){o:Bool}(fr:FrA 240 (tL C w v nx bd [(13,.bool o)]) [] A)
 (HK:∀J O,FrA 240 (tL C w v nx bd [(13,.bool (o||(bd.nt C.N).lets.any λk=>Zg k.text Za))]) [] J->kW W O->K J O) :
 (iy [1,1,1,1,1,1,0]).wp Tryz.prog (Exit.then K Q) A W:=by
 rw[Zb1]at HK;have m:=hc.bdT;have p:=I.tree m.1 m.2;have HL:=lh (YU W B bd p.1 Px);obtain⟨P,hP⟩:=zX (bd.kids.filter vG)
 rw[<-hP]at HL HK;refine Zwf ?_;intro nj;have U:=lh p.1;have HKK:=lh HK;unfold tL at fr;obtain⟨pv,nv,cv,rfl⟩:∃pv nv cv,v=.slice pv nv cv:=by
  exact Ms
 obtain⟨xt,rfl,X,Y,Z,e6,e8,e9,uc,-⟩:=U9 fr;rw[X,Y,Z,e6,e8,e9,uc];clear X Y Z e6 e8 e9 uc fr hc I HK m p hP;unfold ATree.ptr at HL;conv=>arg 2;whnf
 go_wp2_with fail
 refine HL.o.mono ?_;rintro e w2⟨v2,rfl,g,F⟩;obtain⟨p2,jR,rfl,dF,fQ,dc⟩:=g.slice;refine Og ?_;intro q cS ni;rw[<-cS]at dF g ⊢;obtain⟨N2,gR,HQ1,aN,gy⟩:=gp g dc cS F (U.o.bel F);clear g F dc cS HL U;go_wp2_with fail
 go_loopw [13,115] (λu i wr=>∃(k:Nat) (c:Bool),k<=q/\u=.bool c/\i=(vI k)/\wr=w2/\Hid ((o||(P.map (ATree.nt C.N)).any λk=>Zg k.text Za)=(c||((P.drop k).map (ATree.nt C.N)).any λk=>Zg k.text Za))) (λ_ i _=>q-(intOf i).toNat)
 case atStart=>exact⟨0,o,Yh _,rfl,rfl,rfl,lh (by rw[List.drop_zero])⟩
 case round=>
  exact AcD
theorem Zn7{n:kB}{l:List kB}{sc:Int}:s.vars (n::l) sc=(s.declare sc n 0 LVal.zero).vars l sc:=rfl
def Zti(hc:EnC C M w z x pn bd B v vs)(J:MAt C M1 W s)(O:MFr M M1 z W)(hm:bd.many<=1500)(hI:Inv s (d+(zt bd).length)){U:Value}(fr:FrA 240 (tL C w v nx bd [(21,U)]) [] A)
 (m:∀X p M',FrA 240 (tL C w v nx bd [(21,U)]) [] X->MAt C M' p (s.vars (bd.nt C.N).vars nx)->MFr M1 M' W p->K X p) :
 (iy [1,1,1,1,1,1,1,1,1,0]).wp Tryz.prog (Exit.then K Q) A W:=by
 rw[VY]at m;have u:=hc.bdT;have Y:=O.tree u.1 u.2;have HL:=lh (Z89 W B bd Y.1 Px);obtain⟨P,Z⟩:=zX (zt bd)
 obtain⟨S,F⟩:=zX (s.vars P nx)
 rw[<-Z]at HL m hI;rw[<-F]at m;obtain⟨HKK,HS,HM⟩:=ds m F J;unfold tL at fr;obtain⟨pv,nv,cv,rfl⟩:∃pv nv cv,v=.slice pv nv cv:=by
  exact Ms
 obtain⟨xt,rfl,e0,e2,e4,e6,e8,e9,qE,-⟩:=U9 fr;rw[e0,e2,e4,e6,e8,e9,qE];clear e0 e2 e4 e6 e8 e9 qE fr hc O m u Y Z J F;unfold ATree.ptr at HL;conv=>arg 2;whnf
 go_wp2_with fail
 refine HL.o.mono ?_;rintro e w2⟨v2,rfl,cG,I,nC⟩;obtain⟨p2,jR,rfl,dF,fQ,dc⟩:=cG.form2;refine Zxl ?_;intro gQ;refine Og ?_;intro q cS ni;have eJ:=lh cG;have kK:=lh gQ;rw[<-cS]at dF hI ⊢;obtain⟨gR,HQ1,aN,bR,ii⟩:=gp dc cS I (HM.o.below I) hI;clear cG I dc gQ cS HL nC hI HM;go_wp2_with fail
 go_loopw [173] (λi wr=>∃(k:Nat) (Mk:MRep) (sk:MSt),k<=q/\i=(vI k)/\Hid (MAt C Mk wr sk)/\Hid (MFr M1 Mk w2 wr)/\Hid (Inv sk (d+(q-k)))/\Hid (S=sk.vars (P.drop k) nx)) (λi _=>q-(intOf i).toNat)
 case atStart=>exact⟨0,M1,s,Yh _,rfl,bR,lh (.refl _ _),ii,lh QW⟩
 case round=>
  obtain⟨k,Mk,sk,hk,rfl,HMk,HFk,ep,HRk⟩:=hrel;by_cases bX:k<q
  .obtain⟨y,hy⟩:∃y,P[k]? =some y:=⟨_,Y6 PP⟩
   obtain⟨g0,hp⟩:=gR.o k y hy;subst hp;obtain⟨mC,i'⟩:=kK.o g0 rfl;have cx:=(HFk.o.cell mC i').trans (eJ.o.cells rfl hy);have eV:=Vp HMk.o ep.o nx y 0 LVal.zero;simp only[LVal.agg,LVal.zero]at eV;have lZ:=lh eV;have hR:=HRk.o;rw[show P.drop k=y::P.drop (k+1) by
    refine XQ ?_;intro hl he;rw[Yt hl,he],Zn7]at hR
   have HR:=lh hR;have jq:=Uw (d:=d+(q-(k+1))) (sc:=nx) (name:=y) (kind:=0) (v:=LVal.zero) (ep.o.less Px) (sn _) Py Py;exact AcH
  .have aR:k=q:=by omega
   exact tu1 aN
theorem Zfo{o:Int}{i:Nat}{u:LVal}{l:List LVal}:MSt.argsPut o i (u::l) s=MSt.argsPut o (i+1) l (s.put o (MSt.argN i) u false):=rfl
theorem Zgm{o:Int}{i:Nat}:MSt.argsPut o i [] s=s:=rfl
def Ztg(gj:K8 C.w0)(hc:EnC C M w z x pn bd B v vs)(hM:MAt C M1 W s)(hF:MFr M M1 z W)(hI:Inv s (d+vs.length+3))(hv:∀u∈vs,VQ s u){o:Bool}(fr:FrA 240 (tL C w v nx bd [(13,.bool o)]) [] A)
 (HK:∀A' W' M',FrA 240 (tL C w v nx bd []) [] A'->MAt C M' W' (if o then s else s.argsObj nx vs)->MFr M1 M' W W'->K A' W')(hQ:∀c a d v w,Q (.panic c) (Act.put a d v) w->Q (.panic c) a w) :
 (iy [1,1,1,1,1,1,1,0]).wp Tryz.prog (Exit.then K Q) A W:=by
 obtain⟨wA,ae⟩:=hc.row;obtain⟨pv,cv,gV,jN,iM,iH⟩:=ae.form;have Gd:=hc.few;have HO:=lh (Y4 (Y4 hc.old hc.below.size) hF.size);refine AaS ?_;intro pG;obtain⟨wh,HKK,fA,HM,HV⟩:=gp gj HK hQ hM hv;obtain⟨n,bF⟩:=zX vs.length
 rw[<-bF]at gV jN Gd hI;have ii:=lh hI;have HN:=lh bF;unfold maxLen at iM;unfold tL at fr;subst gV;obtain⟨xt,rfl,e0,e2,e4,e6,e8,e9,uc,-⟩:=U9 fr;rw[e0,e2,e4,e6,e8,e9,uc];clear e0 e2 e4 e6 e8 e9 uc fr hc hM hF hI hv HK hQ ae iH bF gj;conv=>arg 2;whnf
 cases o;case true=>
  go_wp2_with fail
  exact HKK.o _ _ M1 ⟨rfl,⟨rfl,rfl,rfl,rfl,rfl,rfl,trivial⟩,rfl⟩ HM.o (.refl _ _)
 case false=>
  obtain⟨p,dO⟩:=zX s.nextO
  obtain⟨s1,aF⟩:=zX (s.object 0)
  obtain⟨s2,cf⟩:=zX (s1.put p ZW (.num n) false)
  have hob:=Zad HM.o ii.o 0;rw[<-dO,<-aF]at hob;have kS:=lh hob;have i1:=ii.o.object (d:=d+n+2) (code:=0) Py Px;rw[<-aF]at i1;have i2:=Ez (d:=d+n+1) (o:=p) (name:=ZW) (v:=.num n) (fx:=false) i1.1 (Zic Px Px);rw[<-cf]at i2;obtain⟨eC,oN,xQ⟩:=ds i1.1 i2.1 (i1.2.trans i2.2);have yi:=lh (show 0<=p/\p<s1.H.objects.length by
   rw[dO,aF];refine⟨by show(0:Int)<=s.H.objects.length;omega,?_⟩;have:(s.object 0).H.objects.length=s.H.objects.length+1:=Rn
   rw[this];show(s.H.objects.length:Int)<_;omega)
  have Nm:=lh i2.2;obtain⟨S,hS⟩:=zX (MSt.argsPut p 0 vs s2)
  have bI:=lh (show S.declare nx Za 0 (.ref p)=s.argsObj nx vs by rw[hS,cf,aF,dO,HN.o];rfl);have HS:=lh hS;have bW:=lh cf;clear hob i1 i2 dO aF cf hS;go_wp2_with fail
  refine kS.o.mono ?_;rintro e W1⟨rfl,Ma,nP,iE⟩;have CU:=lh nP;have dW:=lh iE;clear nP iE kS;go_wp2_with fail
  refine Z9 [(true,0),(true,1),(true,2),(true,3),(true,4),(true,5),(false,6)] [7] (λ_=>True) Pz Pz (λc a d v w h=>fA.o c a d v w h) trivial (λbq=>?_);refine f8 ?_;intro K hK;refine(Zp2 _ _).mono ?_;rintro e W2⟨rfl,ar⟩;have y:=CU.o.drew.below ar;have F:=(MFr.drew (.refl Ma W1)).trans (.of_below ar);refine hK _ _ trivial ?_;clear hK K;have hpt:=B7 y eC.o p ZW (.num n) false;rw[<-bW.o]at hpt;simp only[LVal.agg,LVal.num,ZW]at hpt;have kp:=lh hpt;have ba:=lh (dW.o.trans F)
  clear y F ar hpt CU dW;simp only[LVal.agg];refine Z0 ?_;go_wp2_with fail
  refine kp.o.mono ?_;rintro e W3⟨rfl,M3,dC,bg⟩;have dE:=lh dC;have bK:=lh (ba.o.trans bg);clear dC bg kp ba;obtain⟨fg,qz⟩:=zX (da (s1.H.put p ⟨#[108,101,110,103,116,104]⟩ ⟨3,n,⟨#[]⟩⟩ false).2)
  rw[<-qz];clear qz;go_wp2_with fail
  go_loopw [144] (λi wr=>∃(k:Nat) (O:MRep) (U:MSt),k<=n/\i=(vI k)/\Hid (MAt C O wr U)/\Hid (MFr M1 O W wr)/\Hid (Inv U (d+1+(n-k)))/\Hid (Ext s2 U)/\Hid (S=MSt.argsPut p k (vs.drop k) U)) (λi _=>n-(intOf i).toNat)
  case atStart=>exact⟨0,M3,s2,Yh _,rfl,dE,bK,lh (oN.o.less Px),lh (.refl _),lh QW⟩
  case round=>
   obtain⟨k,O,U,hk,rfl,X,I,ep,dG,HRk⟩:=hrel;by_cases bX:k<n
   .obtain⟨u,hu⟩:∃u,vs[k]? =some u:=⟨_,Y6 PU⟩
    have ua:vs.drop k=u::vs.drop (k+1):=by
     obtain⟨h1,h2⟩:=List.getElem?_eq_some_iff.1 hu;rw[Yt h1,h2]
    have jY:u.ok U.H.objects.length:=VQ.ext (VQ.ext (HV.o u (Yd hu)) xQ.o) dG.o;obtain⟨gv,sR,fL⟩:=pG.o k u hu;subst sR;obtain⟨Y,Z,us⟩:=u;obtain⟨b0,b1,b2⟩:=fL O wr I.o;simp only at b0 b1 b2;have hpt:=λ(W':kV) (M':MRep) (h:MAt C M' W' U)=>B7 h ep.o p (MSt.argN k) ⟨Y,Z,us⟩ false;simp only[LVal.agg,MSt.argN]at hpt;have kp:=lh hpt;have hR:=HRk.o;rw[ua,Zfo]at hR;have HR:=lh hR
    have jq:=Ez (d:=d+1+(n-(k+1))) (o:=p) (name:=MSt.argN k) (v:=⟨Y,Z,us⟩) (fx:=false) (ep.o.less Px) jY;have tv:=lh jq.1;have FW:=lh (dG.o.trans jq.2);have J:=Lo.new (wE:=W) X.o I.o.size HO.o #[vI Y,vI Z,.string us] 56;have m:=Z1 wr (.cells #[vI Y,vI Z,.string us] 56);have y:=X.o.below m;have F:=MFr.of_below (M:=O) m;obtain⟨gS,bR,ba⟩:=ds J y F;clear fL hu ua jY hpt hR jq J m y F;go_wp2_with fail
    have J:=gS.o;have y:=bR.o;have F:=ba.o;clear gS bR ba b0 b1 b2;generalize wr.alloc (.cells #[vI Y,vI Z,.string us] 56)=W2 at J y F ⊢;generalize wr.heap.size=p2 at J y F ⊢;have bR:=lh y;have dZ:=lh (I.o.trans F)
    have nN:=lh (show∀W' M',MFr O M' W2 W'->vC W' p2 0 (vI Y)/\vC W' p2 1 (vI Z)/\vC W' p2 2 (.string us)from
     λW' M' f=>⟨(J.fr f).cell rfl,(J.fr f).cell rfl,(J.fr f).cell rfl⟩)
    clear J y F;refine Z9 [(true,0),(true,1),(true,2),(true,3),(true,4),(true,7),(false,5),(true,6)] [8] (λW=>vC W p2 0 (vI Y)/\vC W p2 1 (vI Z)/\vC W p2 2 (.string us)) Pz Pz (λc a d v w h=>fA.o c a d v w h) (nN.o _ _ (.drew (.refl _ _))) (λbq=>?_);refine f8 ?_;intro K hK;refine(Ziv _ (k:Int) Px Px (wh.o.below bR.o.drew.old)).mono ?_;rintro e W3⟨rfl,m⟩;have F3:=(MFr.drew (.refl O W2)).trans (.of_below m)
    refine hK _ _ (nN.o _ _ F3) ?_;clear hK K;have dE:=lh (bR.o.drew.below m);have bK:=lh (dZ.o.trans F3);clear m F3;have Nn:=lh (show¬9223372036854775807<1+(Lib.itoa (k:Int)).length by have:=Lib.itoa_length_le (k:Int) Px Px;omega);refine Za3 ?_ PM (λw' kI=>?_) ?_;rotate_left
    .obtain⟨s0,s1,s2⟩:=kI;go_simp
     rw[Y3 Nn.o];first|done|with_reducible rfl
    simp only[Act.put,zA,zB,zC];refine Z0 ?_;have No:=lh (kp.o _ _ dE.o);go_wp2_with fail
    refine No.o.mono ?_;rintro e W4⟨rfl,M4,fC,be⟩;have iZ:=lh fC;have ko:=lh (bK.o.trans be);clear fC be;go_wp2_with fail
    go_roundw
    case rel=>exact⟨k+1,M4,_,by omega,by go_num,iZ,ko,tv,FW,HR⟩
    case measure=>simp[intOf];omega
   .have aR:k=n:=by omega
    subst aR;have hR:=HRk.o;rw[List.drop_eq_nil_of_le Qm,Zgm]at hR;have eV:=Vp X.o ep.o nx Za 0 (.ref p);rw[<-hR,bI.o]at eV;simp only[LVal.agg,LVal.ref,Za]at eV;have lZ:=lh eV;clear hR eV;go_wp2_with fail
    refine lZ.o.mono ?_;rintro e W4⟨rfl,M4,fC,be⟩;have iZ:=lh fC;have ko:=lh (I.o.trans be);exact Zwv
end
