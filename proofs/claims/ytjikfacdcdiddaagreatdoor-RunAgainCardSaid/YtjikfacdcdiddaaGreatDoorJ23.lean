/- Package run: do, where a value is worked out first. -/
import Derived.Test.YtjikfacdcdiddaaGreatDoorJ22
set_option maxRecDepth 100000
set_option maxHeartbeats 20000000
set_option linter.unusedVariables false
set_option linter.unusedSimpArgs false
namespace Go.Proofs.YtjikfacdcdiddaaGreatDoor
open Go Go.RowKit
section
variable {C:RCtx}{M M':MRep}{w w':World}{s s':MSt}{B:Nat}{a:ATree}{V:VF}{D:DF}{b:Int}{sc:Int}{fr:Frm}{d:Nat}
theorem Zv6{V:VF}{D:DF}{f:Nat}{n:NT}(hs:s.steps<20000)(m:n.kids.isEmpty=false)(g:n.kind≠2∧n.kind≠5∧n.kind≠6∧n.kind≠12∧n.kind≠8):wI V D f n sc fr s =
 gE (V (n.kid 0) sc fr) (D9 V D f n sc fr (-1)) {s with steps:=s.steps+1}:=by
 unfold wI yk;rw[Y3 O',Y3 (by rw[m];simp;exact g.2)];show gE (V (n.kid 0) sc fr) (D9 V D f n sc fr (if n.kind=2∧n.kids.isEmpty=false then s.H.find sc n.text else -1)) _=_;rw[Y3 (λe=>g.1 e.1)]
theorem Zwx{A B:Prop}{H R:World->Nat->Prop}(m:Hid (∀W p,H W p->R W p)->A)(o:Hid (∀W p,H W p->R W p)->B)(g:∀W p,H W p->R W p):A∧B:=⟨m (lh g),o (lh g)⟩
def U1(C:RCtx)(M:MRep)(w:World)(s':MSt)(M':MRep)(rb:Nat)(v:LVal)(W:World)(p:Nat):Prop:=
 MAt C M' W s'∧MFr M M' w W∧ak C M' W (.thr v) (qy p)∧Lo C M' w W rb #[vI 0,vI 0,.string ⟨#[]⟩] 55
theorem Zcm(h:MAt C M w s)(v:LVal):MAt C M (((w.setCell ⟨C.mb,14,none⟩ (vI v.kind)).setCell ⟨C.mb,15,none⟩ (vI v.n)).setCell ⟨C.mb,16,none⟩ (.string v.s)) {s with last:=v}∧
 MFr M M w (((w.setCell ⟨C.mb,14,none⟩ (vI v.kind)).setCell ⟨C.mb,15,none⟩ (vI v.n)).setCell ⟨C.mb,16,none⟩ (.string v.s)):=by
 have hr:∀j,14<=j->∀i,i<4->rowO i≠j:=λj m i hi=>by
  match i,hi with
  |0,_=>simp[rowO];omega
  |1,_=>simp[rowO];omega
  |2,_=>simp[rowO];omega
  |3,_=>simp[rowO];omega
 obtain⟨g,a2⟩:=h.scalar (j:=14) (v:=(vI v.kind)) (s':={s with last:=⟨v.kind,s.last.n,s.last.s⟩}) Pa rfl rfl rfl rfl rfl (hr 14 O') ⟨_,h.cell 14 (vI s.last.kind) Pl⟩ (λo x hx=>by
  simp only[lH,List.mem_cons,Prod.mk.injEq,List.not_mem_nil,or_false]at hx ⊢;rcases hx with h|h|h|h|h|h|h|h|h|h|h<;>(obtain⟨rfl,rfl⟩:=h;simp))
 obtain⟨b1,b2⟩:=g.scalar (j:=15) (v:=(vI v.n)) (s':={s with last:=⟨v.kind,v.n,s.last.s⟩}) Pa rfl rfl rfl rfl rfl (hr 15 O') ⟨_,g.cell 15 (vI s.last.n) Pl⟩ (λo x hx=>by
  simp only[lH,List.mem_cons,Prod.mk.injEq,List.not_mem_nil,or_false]at hx ⊢;rcases hx with h|h|h|h|h|h|h|h|h|h|h<;>(obtain⟨rfl,rfl⟩:=h;simp))
 obtain⟨c1,c2⟩:=b1.scalar (j:=16) (v:=.string v.s) (s':={s with last:=v}) Pa rfl rfl rfl rfl rfl (hr 16 O') ⟨_,b1.cell 16 (.string s.last.s) Pl⟩ (λo x hx=>by
  simp only[lH,List.mem_cons,Prod.mk.injEq,List.not_mem_nil,or_false]at hx ⊢;rcases hx with h|h|h|h|h|h|h|h|h|h|h<;>(obtain⟨rfl,rfl⟩:=h;simp))
 exact⟨c1,(a2.trans b2).trans c2⟩
theorem WB(cA:xH C V b)(cZ:Dl C D b)(hV:VH V b)(h:MAt C M w s)(hI:Inv s 0)(t7:d+1<=20000)(hA:FAt s sc fr)(hb:b<=s.steps+1)(hs:s.steps<20000)(ha:TreeAt w B a)(hf:a.free M){x:ATree}{l:List ATree}(cB:a.kids=x::l)(wx:(x.nt C.N).wf .v)(mx:(x.nt C.N).tree.many<=1500)(hl:l.length<=2)(y7:∀y∈l,(y.nt C.N).wf .s∧(y.nt C.N).tree.many<=1500){fu:Nat}(hk:a.kind=3∨a.kind=4∨a.kind=7∧1<=l.length∨a.kind=9∧l.length=1∨a.kind=10∨a.kind=11∨a.kind=15) :
 Calls Tryz.prog 45 #[vP C.mb,a.ptr,vI sc,.agg #[.bool fr.strict,vI fr.vars]] w λe w'=>iz C M w (wI V D fu (a.nt C.N) sc fr s) e w':=by
 refine I4 ?_;intro s1 aG bY hst jF bc dt du dv z0 aD;rw[<-aD]at bc dt du dv;refine o9 ?_;intro cF f5 y5 aE aY;rw[<-aG]at aE;refine pN ?_;intro z hz;rw[<-hz]at aE aY;refine Kw ?_;intro eT aJ bz lf lr ln g5 c0;rw[aD]at f5 y5;rw[hz,aD]at g5 c0;obtain⟨q,hq⟩:=zX l.length
 have e0:(a.nt C.N).kid 0=x.nt C.N:=sp Qe;obtain⟨R,aS⟩:=zX (wI V D fu (a.nt C.N) sc fr s)
 rw[<-aS];have u:=aS.trans (Zv6 (fr:=fr) (sc:=sc) (V:=V) (D:=D) (f:=fu) (n:=a.nt C.N) hs (by rw[Zq,cB];rfl) (by rw[Zc];omega));rw[<-aG,e0]at u;clear aS e0;refine L3 ?_;intro dC HZ ar bQ dH bM HM fI ea HO HE;refine SE ?_;intro fS dP eC;have ai:b<=s1.steps:=O'
 have jc:s1.steps<=20000:=O'
 obtain⟨m,J,c3,ct,aR,bO,ba,eU⟩:=aJ.row bz PH;rw[cB]at c3 ct bO;have ee:x∈a.kids:=PH
 have k0:=bO 0 x rfl;simp only[List.length_cons,<-hq]at c3 ct
 have ap:∀W M',MFr M M' z W->vC W w.heap.size 0 (.bool fr.strict)∧vC W w.heap.size 1 (vI fr.vars)∧vC W a.b 0 (vI a.kind)∧vC W a.b 1 (.string a.text)∧vC W a.b 3 (.slice (some ⟨m,0,none⟩) (q+1) J)∧vC W m 0 (vP x.b):=λW M' f=>⟨(lf.fr f).cell rfl,(lf.fr f).cell rfl,(f.tree aJ bz).1.c0,(f.tree aJ bz).1.c1,(f.cell aJ.lt bz.blk).trans c3,(f.cell ba eU).trans k0⟩;refine KJ ?_;intro jZ dR eJ
 rw[jZ]at dR;refine KC ?_;intro zv ff;rw[<-ff]at dR eJ;have d3:=(eJ.cell (p:=⟨a.b,3,none⟩) aJ.lt).trans c3;have d0:=(eJ.cell (p:=⟨a.b,0,none⟩) aJ.lt).trans aJ.c0;rw[ff,hz,aD]at d3 d0;have lN:=lh (show zv=_ from ff.trans (by rw[hz,aD]));have oQ:=lh dR;have nN:=lh eJ;refine Zwo ?_;intro r1 bA bF aj;unfold gE at u;rw[<-bA]at bF aj u;have bR:=lh aj;have HR:=lh u;have O:=lh ap;have ii:=lh (hA.ext dP);have HB:=lh ai;have iX:=lh cZ
 have lZ:=lh (show∀(i:Nat) (y:ATree),l[i]?=some y->z.cell? ⟨m,i+1,none⟩=some (vP y.b)from λi y hy=>bO (i+1) y hy);have qV:=lh (show∀y∈l,TreeAt z B y∧y.free M from λy hy=>⟨aJ.kid Q4,bz.kid Q4⟩);have xj:=lh y7;have fL:=lh ba;have xV:=lh eU;have pC:=lh (show∀(i:Nat) (y:ATree),l[i]?=some y->(a.nt C.N).kid (i+1)=y.nt C.N from λi y hy=>sp (by rw[cB];exact hy))
 have BQ:=lh (show(a.nt C.N).kids.length=q+1 by rw[Zq,yn,Ym,cB,hq];rfl);have HQ:=lh hq;have ng:q<=2:=O'
 have b2:(a.kind==2)=false:=Pe
 have b5:(a.kind !=5)=true:=Pe
 have b6:(a.kind !=6)=true:=Pe
 have gI:(a.kind !=12)=true:=Pe
 have b8:(a.kind !=8)=true:=Pe
 have fW:decide (0<q+1)=true:=Pg
 have OO:=lh (And.intro ct aR);clear hz aD bc cF aE aY eT aJ bz dt du dv lf lr ln ha hf h hI aG fS dP eC ai jc ap c3 k0 bO cB bA aj u hA cA cZ hV ee dR eJ ff y7 ba eU hq hb c0;unfold ATree.ptr;go_enter Tryz.func45,Tryz.ntmps45
 go_wp2_with fail
 rw[<-lN.o];clear f5 y5 g5 d3 d0;have qu:=lh (λW M' (f:MFr M M' zv W)=>O.o W M' ((MFr.of_below nN.o).trans f))
 refine uY (.take 0 (.take 1 (.take 2 (.take 3 (.take 4 (.take 5 (.take 6 (.take 7 (.take 8 (.go 9 (.take 10 (.take 11 (.take 12 (.go 13 (.go 14 .nil))))))))))))))) 13 (λW=>vC W w.heap.size 0 (.bool fr.strict)∧vC W w.heap.size 1 (vI fr.vars)∧vC W a.b 0 (vI a.kind)∧vC W a.b 1 (.string a.text)∧vC W a.b 3 (.slice (some ⟨m,0,none⟩) (q+1) J)∧vC W m 0 (vP x.b)) (qu.o _ _ (.drew (.refl _ _))) ?_;refine lM ?_
 refine mH (λK hK=>?_);refine(bF.o _ (Ze _)).mono ?_;rintro e W0⟨M1,k1,n1,t1,bU,rfl,ai⟩;have F0:=(MFr.drew (.refl M zv)).trans ai.2.1;refine hK _ _ (qu.o _ _ F0) ?_;clear hK K;refine XQ ?_;clear ai F0;intro jD ei pi qO;generalize((W0.setCell ⟨w.heap.size+1+1+1,0,none⟩ (vI k1)).setCell ⟨w.heap.size+1+1+1,1,none⟩ (vI n1)).setCell ⟨w.heap.size+1+1+1,2,none⟩ (.string t1)=W1 at *;obtain⟨s2,q1⟩:=r1;cases q1 with
 | error x1 =>
   exact ZD
 | ok v1 =>
   obtain⟨rfl,rfl⟩:v1=⟨k1,n1,t1⟩∧bU=.nilIface:=qO.o;obtain⟨i1,x1,-,ey,i2⟩:=bR.o;have eL:=lh i1;have lg:=lh x1;have MI:=lh ey;have nh:=lh i2;have am:R=D9 V D fu (a.nt C.N) sc fr (-1) ⟨k1,n1,t1⟩ s2:=HR.o;unfold D9 at am;rw[Zc,Zz]at am;have bD:=lh am;clear HR am i1 x1 ey i2 qO bF;obtain⟨f0,f1,d0,d1,d3,nP⟩:=O.o W1 M1 ei.o;obtain⟨b0,b1,C7,-,-,-⟩:=pi.o.six;have BB:=lh (λW M' (f:MFr M1 M' W1 W)=>O.o W M' (ei.o.trans f))
   have rI:=lh (show∀W M',MFr M1 M' W1 W->vC W (w.heap.size+1+1+1) 0 (vI k1)∧vC W (w.heap.size+1+1+1) 1 (vI n1)∧vC W (w.heap.size+1+1+1) 2 (.string t1)from
    λW M' f=>⟨(pi.o.fr f).cell rfl,(pi.o.fr f).cell rfl,(pi.o.fr f).cell rfl⟩)
   obtain⟨m0,m1,m2,-,-,-⟩:=(bQ.o.fr ei.o).six;obtain⟨q0,q1,q2,z0,z1,z2⟩:=(ar.o.fr ei.o).six;rcases hk with hk|hk|⟨hk,aH⟩|⟨hk,aH⟩|hk|hk|hk
   all_goals
    have am:=bD.o;rw[hk]at d0 am BB;simp at am;have HR:=lh am;have HK:=lh hk;clear hk am bD b2 b5 b6 gI b8 fW
   .exact tr1
   .exact tr1
   .obtain⟨y,hy⟩:∃y,l[0]? =some y:=⟨_,Y6 O'⟩
    have Hy:=lh hy;refine Zqg ?_;intro ht bt cV;rw[<-cV]at ht;have HT:=lh ht;have u:=HR.o;rw[<-cV,show(a.nt C.N).kid 1=y.nt C.N from pC.o 0 y hy]at u;have HR:=lh u;clear ht cV u hy;go_wp2_with fail
    refine HT.o.mono ?_;rintro e W2⟨rfl,au⟩;have bW:=lh (jD.o.below au);have aZ:=lh (ei.o.trans (.of_below au));obtain⟨f0,f1,d0,d1,d3,nP⟩:=O.o W2 M1 aZ.o;clear au;have Fz:q=1∨q=2:=Rm
    rcases Fz with rs|rs
    all_goals
     rw[rs]at d3;have U:=lh rs;clear rs;cases bt
    .simp only[Bool.false_eq_true,if_false]at HR;have am:R=(s2,.ok (false,⟨0,0,⟨#[]⟩⟩)):=by rw[HR.o,Y5 (by rw[BQ.o,U.o];decide)];rfl
     clear HR;subst am;clear q0 q1 q2 z0 z1 z2 m0 m1 m2;exact XZ
    .simp only[if_true]at HR;refine Zw1 ?_;intro HY tg bS
     have oU:=lh (show∀W M',MFr M1 M' W2 W->vC W w.heap.size 0 (.bool fr.strict)∧vC W w.heap.size 1 (vI fr.vars)∧vC W a.b 3 (.slice (some ⟨m,0,none⟩) 2 J)∧vC W m 1 (vP y.b)from
      λW M' f=>have g:=O.o W M' (aZ.o.trans f);⟨g.1,g.2.1,by have h:=g.2.2.2.2.1;rw[U.o]at h;exact h,((aZ.o.trans f).cell fL.o xV.o).trans (lZ.o 0 y Hy.o)⟩)
     go_wp2_with fail
     refine oi [(true,0),(true,1),(true,2),(true,3),(true,4),(true,5),(true,6),(true,7),(true,8),(false,9),(true,10),(true,11),(true,12)] [13,14,15] (λW=>vC W w.heap.size 0 (.bool fr.strict)∧vC W w.heap.size 1 (vI fr.vars)∧vC W a.b 3 (.slice (some ⟨m,0,none⟩) 2 J)∧vC W m 1 (vP y.b)) (oU.o _ _ (.drew (.refl _ _))) (λbu=>?_);exact tr9
    .simp only[Bool.false_eq_true,if_false]at HR;obtain⟨I,FA⟩:∃I,l[1]? =some I:=⟨_,Y6 (by rw[<-HQ.o,U.o];decide)⟩
     have Cz:=lh FA;have u:=HR.o;rw[Y3 (by rw[BQ.o,U.o];decide),show(a.nt C.N).kid 2=I.nt C.N from pC.o 1 I FA]at u;have HR:=lh u;clear u FA;have HY:=lh (qV.o I (Yd Cz.o));have tg:=lh (aZ.o.tree HY.o.1 HY.o.2);have bS:=lh (iX.o.from bW.o eL.o (ii.o.ext lg.o) (Int.le_trans HB.o lg.o.steps) nh.o (xj.o I (Yd Cz.o)).1 (xj.o I (Yd Cz.o)).2 tg.o.1 tg.o.2)
     have oU:=lh (show∀W M',MFr M1 M' W2 W->vC W w.heap.size 0 (.bool fr.strict)∧vC W w.heap.size 1 (vI fr.vars)∧vC W a.b 3 (.slice (some ⟨m,0,none⟩) 3 J)∧vC W m 2 (vP I.b)from
      λW M' f=>have g:=O.o W M' (aZ.o.trans f);⟨g.1,g.2.1,by have h:=g.2.2.2.2.1;rw[U.o]at h;exact h,((aZ.o.trans f).cell fL.o xV.o).trans (lZ.o 1 I Cz.o)⟩)
     go_wp2_with fail
     refine oi [(true,0),(true,1),(true,2),(true,3),(true,4),(true,5),(true,6),(true,7),(true,8),(false,9),(true,10),(true,11),(true,12)] [13,14,15] (λW=>vC W w.heap.size 0 (.bool fr.strict)∧vC W w.heap.size 1 (vI fr.vars)∧vC W a.b 3 (.slice (some ⟨m,0,none⟩) 3 J)∧vC W m 2 (vP I.b)) (oU.o _ _ (.drew (.refl _ _))) (λbu=>?_);refine Xl ?_;clear q0 q1 q2 z0 z1 z2 m0 m1 m2;intro W3 M3 b3 k3 n3 t3 fg bP bE
     obtain⟨q0,q1,q2,z0,z1,z2⟩:=(ar.o.fr bE.o).six;obtain⟨r3,dp⟩:=zX (D (I.nt C.N) sc fr s2)
     rw[<-dp]at bP;have am:R=r3:=by rw[HR.o,dp]
     clear HR dp;subst am;exact Vo
    .simp only[if_true]at HR;refine Zw1 ?_;intro HY tg bS
     have oU:=lh (show∀W M',MFr M1 M' W2 W->vC W w.heap.size 0 (.bool fr.strict)∧vC W w.heap.size 1 (vI fr.vars)∧vC W a.b 3 (.slice (some ⟨m,0,none⟩) 3 J)∧vC W m 1 (vP y.b)from
      λW M' f=>have g:=O.o W M' (aZ.o.trans f);⟨g.1,g.2.1,by have h:=g.2.2.2.2.1;rw[U.o]at h;exact h,((aZ.o.trans f).cell fL.o xV.o).trans (lZ.o 0 y Hy.o)⟩)
     go_wp2_with fail
     refine oi [(true,0),(true,1),(true,2),(true,3),(true,4),(true,5),(true,6),(true,7),(true,8),(false,9),(true,10),(true,11),(true,12)] [13,14,15] (λW=>vC W w.heap.size 0 (.bool fr.strict)∧vC W w.heap.size 1 (vI fr.vars)∧vC W a.b 3 (.slice (some ⟨m,0,none⟩) 3 J)∧vC W m 1 (vP y.b)) (oU.o _ _ (.drew (.refl _ _))) (λbu=>?_);exact tr9
   .obtain⟨y,hy⟩:∃y,l[0]? =some y:=⟨_,Y6 O'⟩
    have Hy:=lh hy;have U:=lh (show q=1 by rw[HQ.o];exact aH);have u:=HR.o;rw[show(a.nt C.N).kid 1=y.nt C.N from pC.o 0 y hy]at u;have HR:=lh u;clear u hy;by_cases h5:k1=5
    .subst h5;have pE:=MI.o.2.2.2.2 rfl;have eP:=eL.o.opens (d:=d) (outer:=sc) (object:=n1) (owner:= -2) (by have :=ii.o.lo;omega) (by have h1:=ii.o.hi;have h2:=lg.o.ls;omega) (Int.le_trans Pa pE.1) pE.2;have eO:=TE jD.o.drew eL.o sc n1 (-2);obtain⟨nx,eG⟩:=zX s2.next
     obtain⟨so,aV⟩:=zX (s2.opens sc n1 (-2))
     have nn:=FAt.opens (ii.o.ext lg.o) eP.2;rw[<-aV,<-eG]at nn eO;rw[<-aV]at eP;have AD:so.steps=s2.steps:=Rk
     obtain⟨r3,dp⟩:=zX (D (y.nt C.N) nx fr so)
     have am:R=r3:=by
      rw[dp,eG,aV];have:=HR.o;simpa using this
     have dU:=lh dp;have jK:=lh eO;have na:=lh eP;have FB:=lh nn;have lq:=lh AD;have HY:=lh (qV.o y (Yd Hy.o))
     have oU:=lh (show∀W M',MFr M1 M' W1 W->vC W w.heap.size 0 (.bool fr.strict)∧vC W w.heap.size 1 (vI fr.vars)∧vC W a.b 3 (.slice (some ⟨m,0,none⟩) 2 J)∧vC W m 1 (vP y.b)∧vC W (w.heap.size+1+1+1) 1 (vI n1)from
      λW M' f=>have g:=O.o W M' (ei.o.trans f);⟨g.1,g.2.1,by have h:=g.2.2.2.2.1;rw[U.o]at h;exact h,((ei.o.trans f).cell fL.o xV.o).trans (lZ.o 0 y Hy.o),(rI.o W M' f).2.1⟩)
     clear HR pE eP eO eG aV nn AD dp;subst am;go_wp2_with fail
     refine oi [(true,0),(true,1),(true,2),(true,3),(true,4),(true,5),(true,6),(true,7),(true,8),(true,9),(true,10),(true,12),(false,11),(false,13),(true,14),(true,15),(true,16)] [17,18,19] (λW=>vC W w.heap.size 0 (.bool fr.strict)∧vC W w.heap.size 1 (vI fr.vars)∧vC W a.b 3 (.slice (some ⟨m,0,none⟩) 2 J)∧vC W m 1 (vP y.b)∧vC W (w.heap.size+1+1+1) 1 (vI n1)) (oU.o _ _ (.drew (.refl _ _))) (λbu=>?_)
     refine ep ?_;refine Z6 (λK hK=>?_);go_simp
     refine jK.o.mono ?_;rintro e W2⟨rfl,M2,aQ,aq⟩;have F2:=(MFr.drew (.refl M1 W1)).trans aq;refine hK _ _ (oU.o _ _ F2) ?_;clear hK K q0 q1 q2 z0 z1 z2 m0 m1 m2;have FC:=(ei.o.trans F2).tree HY.o.1 HY.o.2;have bS:=lh (iX.o.from aQ na.o.1 FB.o (by have h1:=HB.o;have h2:=lg.o.steps;have h3:=lq.o;omega) (by rw[lq.o];exact nh.o) (xj.o y (Yd Hy.o)).1 (xj.o y (Yd Hy.o)).2 FC.1 FC.2 W2 (Y2 _ _));rw[<-dU.o]at bS;have aZ:=lh (ei.o.trans F2);have js:=lh F2
     clear aQ aq F2 FC;refine Z6 (λK hK=>?_);go_simp
     refine bS.o.mono ?_;rintro e W3⟨M3,b3,k3,n3,t3,fg,rfl,aX⟩;refine hK _ _ (oU.o _ _ (js.o.trans aX.2.1)) ?_;clear hK K;have bP:=lh aX;have bE:=lh (aZ.o.trans aX.2.1);clear aX;refine Vp ?_;intro q0 q1 q2 z0 z1 z2;exact Vo
    .have b5:(k1 !=5)=true:=by simp[h5]
     have am:R=(s2,.error (.thr (.say wh))):=by
      have:=HR.o;simp only[h5,if_false]at this;exact this
     clear HR h5;subst am;have HP:=lh (KB jD.o.drew wh)
     have xN:=lh (show∀W M',MFr M1 M' W1 W->vC W (w.heap.size+1+1) 0 (vI 0)∧vC W (w.heap.size+1+1) 1 (vI 0)∧vC W (w.heap.size+1+1) 2 (.string ⟨#[]⟩)from
      λW' M' f=>⟨(bQ.o.fr (ei.o.trans f)).cell rfl,(bQ.o.fr (ei.o.trans f)).cell rfl,(bQ.o.fr (ei.o.trans f)).cell rfl⟩)
     go_wp2_with fail
     refine oi [(true,0),(false,1),(true,2)] [3,4] (λW=>vC W (w.heap.size+1+1) 0 (vI 0)∧vC W (w.heap.size+1+1) 1 (vI 0)∧vC W (w.heap.size+1+1) 2 (.string ⟨#[]⟩)) ⟨m0,m1,m2⟩ (λbu=>?_);refine ep ?_;refine Z6 (λK hK=>?_);go_simp
     refine HP.o.mono ?_;rintro e W3⟨fg,rfl,ko,Y⟩;have cj:MFr M1 M1 W1 W3:=(MFr.drew (.refl M1 W1)).trans (.of_below Y);refine hK _ _ (xN.o _ _ cj) ?_;clear hK K q0 q1 q2 z0 z1 z2 m0 m1 m2;obtain⟨q0,q1,q2,z0,z1,z2⟩:=(ar.o.fr (ei.o.trans cj)).six;have dq:=lh (jD.o.drew.below Y);have bE:=lh (ei.o.trans cj);have il:=lh ko;clear cj ko Y;refine ep ?_;refine Z0 ?_;go_wp2;refine bodyPost_ret (v:=.tuple #[.bool false,.agg #[vI 0,vI 0,.string ⟨#[]⟩],fg]) ?_ rfl ?_;·simp[results,Tryz.results45,go_sem,q0,q1,q2]
     .exact .err' ar.o bM.o dq.o bE.o il.o
   .have am:R=(s2,.ok (true,⟨k1,n1,t1⟩)):=HR.o;clear HR;subst am;go_wp2_with fail
    refine oi [(true,0),(true,1)] [2,3] (λW=>vC W (w.heap.size+1+1+1) 0 (vI k1)∧vC W (w.heap.size+1+1+1) 1 (vI n1)∧vC W (w.heap.size+1+1+1) 2 (.string t1)) (rI.o _ _ (.drew (.refl _ _))) (λbu=>?_);refine ep ?_;refine Z0 ?_;go_wp2;refine bodyPost_ret (v:=.tuple #[.bool true,.agg #[vI k1,vI n1,.string t1],.nilIface]) ?_ rfl ?_;·simp[results,Tryz.results45,go_sem,q0,q1,q2]
    .exact .fine' ar.o bM.o jD.o.drew (ei.o.trans (.drew (.refl _ _)))
   .have am:R=(s2,.error (.thr ⟨k1,n1,t1⟩)):=HR.o;clear HR;subst am;have iY:w.heap.size+1+1≠w.heap.size+1:=by omega
    have cG:w.heap.size+1+1+1≠w.heap.size+1:=O'
    have OP:=(ar.o.fr ei.o).lt;go_wp2_with fail
    refine uY (.take 0 (.take 1 (.take 2 (.take 5 (.two 3 (.take 4 (.go 6 (.go 7 .nil))) 6 (.go 3 (.take 4 (.go 7 .nil)))))))) 7 (λW=>vC W (w.heap.size+1+1) 0 (vI 0)∧vC W (w.heap.size+1+1) 1 (vI 0)∧vC W (w.heap.size+1+1) 2 (.string ⟨#[]⟩)∧vC W (w.heap.size+1+1+1) 0 (vI k1)∧vC W (w.heap.size+1+1+1) 1 (vI n1)∧vC W (w.heap.size+1+1+1) 2 (.string t1)) ⟨m0,m1,m2,b0,b1,C7⟩ ?_;refine lM ?_
    have JG:∀W,MFr M1 M1 W1 W->∀x0 x1 x2,(Lo C M1 w ((((W.setCell ⟨w.heap.size+1,0,none⟩ x0).setCell ⟨w.heap.size+1,1,none⟩ x1).setCell ⟨w.heap.size+1,2,none⟩ x2)) (w.heap.size+1+1) #[vI 0,vI 0,.string ⟨#[]⟩] 55)∧
     Lo C M1 z ((((W.setCell ⟨w.heap.size+1,0,none⟩ x0).setCell ⟨w.heap.size+1,1,none⟩ x1).setCell ⟨w.heap.size+1,2,none⟩ x2)) (w.heap.size+1+1+1) #[vI k1,vI n1,.string t1] 55:=λW f x0 x1 x2=>
     ⟨(((bQ.o.fr (ei.o.trans f)).apart iY 0 x0).apart iY 1 x1).apart iY 2 x2,(((pi.o.fr f).apart cG 0 x0).apart cG 1 x1).apart cG 2 x2⟩
    have JH:=lh JG;clear JG q0 q1 q2 z0 z1 z2;refine Zt ?_;apply Zwx (H:=U1 C M w s2 M1 (w.heap.size+1) ⟨k1,n1,t1⟩)
    .intro ci;refine mH (λK hK=>?_);have CA:=(Z1 W1 (lD ⟨k1,n1,t1⟩)).drew;have Z:MFr M1 M1 W1 (W1.alloc (lD ⟨k1,n1,t1⟩)).drew:=.of_below CA;refine hK _ _ ⟨(bQ.o.fr (ei.o.trans Z)).cell rfl,(bQ.o.fr (ei.o.trans Z)).cell rfl,(bQ.o.fr (ei.o.trans Z)).cell rfl,rI.o _ _ Z⟩ ?_;clear hK K;obtain⟨W2,E⟩:=zX ((W1.alloc (lD ⟨k1,n1,t1⟩)).drew)
     have JI:ak C M1 W2 (.thr ⟨k1,n1,t1⟩) (qy W1.heap.size):=⟨_,rfl,by rw[E];exact heap_alloc_new W1 _,jD.o.fresh (Y0 _)⟩
     rw[<-E]at CA Z;unfold lD LVal.arr at E;simp only at E;have nI:=lh JI;have aZ:=lh Z;have aO:=lh CA;have fH:=lh E;obtain⟨q0,q1,q2,z0,z1,z2⟩:=(ar.o.fr (ei.o.trans aZ.o)).six;rw[<-fH.o];clear JI Z CA E;try simp only[Act.put,zA,zB,zC]
     refine lM ?_;refine mH (λK hK=>?_);have o:=JH.o W2 aZ.o (vI 0) (vI 0) (.string ⟨#[]⟩);refine hK _ _ ⟨o.1.cell rfl,o.1.cell rfl,o.1.cell rfl,o.2.cell rfl,o.2.cell rfl,o.2.cell rfl⟩ ?_;clear hK K o;try simp only[Act.put,zA,zB,zC]
     refine AR (λK hK=>?_);refine hK _ _ (D2 ?_);clear hK K;obtain⟨g1,g2,g3,g4⟩:=(ar.o.fr (ei.o.trans aZ.o)).fill (x':=(vI 0)) (y':=(vI 0)) (z':=.string ⟨#[]⟩) (jD.o.below aO.o) (bM.o.trans (ei.o.trans aZ.o)) ar.o.late;have F:U1 C M w s2 M1 (w.heap.size+1) ⟨k1,n1,t1⟩ _ W1.heap.size:=⟨g1,g2,g4 _ _ nI.o,g3⟩
     clear g1 g2 g3 g4 q0 q1 q2 z0 z1 z2;generalize((W2.setCell ⟨w.heap.size+1,0,none⟩ (vI 0)).setCell ⟨w.heap.size+1,1,none⟩ (vI 0)).setCell ⟨w.heap.size+1,2,none⟩ (.string ⟨#[]⟩)=W3 at F ⊢;generalize W1.heap.size=p3 at F ⊢;exact ci.o W3 p3 F
    .intro ci;obtain⟨q0,q1,q2,z0,z1,z2⟩:=(ar.o.fr ei.o).six;refine mH (λK hK=>?_);obtain⟨W2,E⟩:=zX (((W1.setCell ⟨w.heap.size+1,0,none⟩ (vI 0)).setCell ⟨w.heap.size+1,1,none⟩ (vI 0)).setCell ⟨w.heap.size+1,2,none⟩ (.string ⟨#[]⟩))
     have o:=JH.o W1 (.refl _ _) (vI 0) (vI 0) (.string ⟨#[]⟩);have be:W2.heap.size=W1.heap.size:=by rw[E];simp[World.setCell]
     obtain⟨g1,g2,g3,g4⟩:=(ar.o.fr ei.o).fill (x':=(vI 0)) (y':=(vI 0)) (z':=.string ⟨#[]⟩) jD.o (bM.o.trans ei.o) ar.o.late;rw[<-E]at o g1 g2 g3;have Y:=(Z1 W2 (lD ⟨k1,n1,t1⟩)).drew;have F:U1 C M w s2 M1 (w.heap.size+1) ⟨k1,n1,t1⟩ (W2.alloc (lD ⟨k1,n1,t1⟩)).drew W1.heap.size:=
      ⟨g1.below Y,g2.trans (.of_below Y),⟨_,rfl,by rw[<-be];exact heap_alloc_new W2 _,by rw[<-be];exact g1.fresh (Y0 _)⟩,g3.fr (.of_below Y)⟩
     unfold lD LVal.arr at F;simp only at F;have HV:=lh F;have fH:=lh E;have FD:=And.intro (o.1.cell (i:=0) rfl) (And.intro (o.1.cell (i:=1) rfl) (And.intro (o.1.cell (i:=2) rfl) (And.intro (o.2.cell (i:=0) rfl) (And.intro (o.2.cell (i:=1) rfl) (o.2.cell (i:=2) rfl)))));have sN:=o.1.bel (Z1 W2 (lD ⟨k1,n1,t1⟩));have sO:=o.2.bel (Z1 W2 (lD ⟨k1,n1,t1⟩))
     have wi:=And.intro (sN.cell (i:=0) rfl) (And.intro (sN.cell (i:=1) rfl) (And.intro (sN.cell (i:=2) rfl) (And.intro (sO.cell (i:=0) rfl) (And.intro (sO.cell (i:=1) rfl) (sO.cell (i:=2) rfl)))));unfold lD LVal.arr at wi;simp only at wi;have iW:=lh wi;rw[E]at FD;refine hK _ _ FD ?_;clear hK K o g1 g2 g3 g4 E FD q0 q1 q2 z0 z1 z2 Y F wi sN sO be;try simp only[Act.put,zA,zB,zC]
     refine mH (λK hK=>?_);rw[<-fH.o];refine hK _ _ iW.o ?_;clear hK K;try simp only[Act.put,zA,zB,zC]
     refine lM ?_;refine AR (λK hK=>?_);refine hK _ _ (D2 ?_);clear hK K;have F:=HV.o;clear HV;generalize(W2.alloc (.cells #[vI k1,vI n1,.string t1] 76)).drew=W3 at F ⊢;generalize W1.heap.size=p3 at F ⊢;exact ci.o W3 p3 F
    .intro W3 p3 F;obtain⟨r0,r1,r2,-,-,-⟩:=F.2.2.2.six;have HV:=lh F;clear F;go_wp2;refine bodyPost_ret (v:=.tuple #[.bool false,.agg #[vI 0,vI 0,.string ⟨#[]⟩],qy p3]) ?_ rfl ?_;·simp[results,Tryz.results45,go_sem,r0,r1,r2,qy]
     .exact⟨M1,HV.o.1,HV.o.2.1,false,LVal.zero,qy p3,rfl,HV.o.2.2.1⟩
   .have am:R=({s2 with last:=⟨k1,n1,t1⟩},.ok (false,⟨0,0,⟨#[]⟩⟩)):=HR.o;clear HR;subst am;have AE:=jD.o.cell 14 (vI s2.last.kind) Pl;have AF:=jD.o.cell 15 (vI s2.last.n) Pl;have AG:=jD.o.cell 16 (.string s2.last.s) Pl;have CB:=jD.o.fz 14;have CC:=jD.o.fz 15;have CD:=jD.o.fz 16;obtain⟨g1,g2⟩:=Zcm jD.o ⟨k1,n1,t1⟩;obtain⟨W2,E⟩:=zX (((W1.setCell ⟨C.mb,14,none⟩ (vI k1)).setCell ⟨C.mb,15,none⟩ (vI n1)).setCell ⟨C.mb,16,none⟩ (.string t1))
    simp only at g1 g2;rw[<-E]at g1 g2;have bW:=lh g1;have aZ:=lh (ei.o.trans g2);have fH:=lh E;clear g1 g2 E;go_wp2_with fail
    rw[<-fH.o];clear q0 q1 q2 z0 z1 z2 m0 m1 m2 f0 f1 d0 d1 d3 nP b0 b1 C7 AE AF AG CB CC CD;refine SH ?_;intro m0 m1 m2 q0 q1 q2 z0 z1 z2;exact tq8
end
section
variable {C:RCtx}{M M1:MRep}{w z W:World}{s:MSt}{B:Nat}{a x0:ATree}{l:List ATree}{V:VF}{D:DF}{b sc:Int}{fr:Frm}{d:Nat}{A:Act}{K:Act->World->Prop}{M2:MRep}{W2:World}{RR:MSt×Except Er LVal}
theorem Zej(h:MAt C M w s)(c:Int):MAt C M (w.setCell ⟨C.mb,13,none⟩ (vI c)) {s with calls:=c}∧MFr M M w (w.setCell ⟨C.mb,13,none⟩ (vI c)):=
 h.scalar Pa rfl rfl rfl rfl rfl (λi hi=>by match i,hi with
  |0,_=>decide
  |1,_=>decide
  |2,_=>decide
  |3,_=>decide) ⟨_,h.cell 13 (vI s.calls) Pl⟩ (λo x hx=>by
  simp only[lH,List.mem_cons,Prod.mk.injEq,List.not_mem_nil,or_false]at hx ⊢;rcases hx with h|h|h|h|h|h|h|h|h|h|h<;>(obtain⟨rfl,rfl⟩:=h;simp))
theorem Zkw(h:MAt C M W s){mx o:Nat}{g m:Int}{lt:ByteArray}(lm:Lo C M w W mx #[vP C.mb] 45)(p:Lo C M w W o #[vI g,vI m,.string lt] 55)(Y:0<=s.calls∧s.calls<=41)(u:FrameMode) :
 CallsD Tryz.prog 141 #[vP mx,vP o] u W λe O w'=>O=u∧(e=.returned (.tuple #[])∧Does C M W {s with calls:=s.calls-1,last:=⟨g,m,lt⟩} w'):=by
 obtain⟨y,E⟩:=Zej h (s.calls-1);obtain⟨F,I⟩:=Zcm y ⟨g,m,lt⟩;have J:=lh (show Does C M W {s with calls:=s.calls-1,last:=⟨g,m,lt⟩} _ from⟨M,F,E.trans I⟩);dsimp only at J
 have Z:=lm.cell (i:=0) rfl;obtain⟨b0,b1,b2,-,-,-⟩:=p.six;have dP:mx≠C.mb:=λe=>lm.free (e▸h.mbHas);have sh:o≠C.mb:=λe=>p.free (e▸h.mbHas);have CE:=h.cell 13 (vI s.calls) Pl;have AH:=h.cell 14 (vI s.last.kind) Pl;have AI:=h.cell 15 (vI s.last.n) Pl;have tT:=h.cell 16 (.string s.last.s) Pl;have JJ:=h.fz 13;have CB:=h.fz 14;have CC:=h.fz 15;have CD:=h.fz 16;have U:IntKind.i64.wrap (s.calls-1)=s.calls-1:=IntWalk.i64_in _ O'
 obtain⟨kc,X⟩:=zX (s.calls-1)
 rw[<-X]at U;clear y E F I h lm p;go_enter_d Tryz.func141,Tryz.ntmps141
 go_wp2;go_end0
 exact⟨rfl,J.o⟩
theorem Zgn(hc:CaC C M w z a x0 l B fr){r:MSt×Except Er LVal}(O:MAt C M2 W2 r.1)(m:MFr M M2 z W2)(MJ:r.1.calls=s.calls+1)(me:0<=s.calls∧s.calls<=40){g:Nat}(U:Lo C M2 w W2 g #[vI s.last.kind,vI s.last.n,.string s.last.s] 55)
 (hp:g≠w.heap.size+1+1)(y:RR=TO s r){k n:Int}{t:ByteArray}{ev:Value}(E:match r.2 with| .ok v=>v=⟨k,n,t⟩∧ev=.nilIface| .error x=>ak C M2 W2 x ev){o:Array Value}
 (F:o.getD 8 undef=.pointer (some ⟨w.heap.size+1+1,0,none⟩))(I:o.getD 9 undef=ev) :
 Go.Leaves Tryz.prog Tryz.f131 o (λe w'=>al C M w RR e w') [{target:=.fn (.func 141) #[vP w.heap.size,vP g],args:=#[]}] .returning
  (((W2.setCell ⟨w.heap.size+1+1,0,none⟩ (vI k)).setCell ⟨w.heap.size+1+1,1,none⟩ (vI n)).setCell ⟨w.heap.size+1+1,2,none⟩ (.string t)):=by
 have X:=hc.lr.fr m;have Y:=hc.lm.fr m;have Z:=(MFr.of_below (M:=M) hc.below).trans m;obtain⟨g1,g2,g3,g4⟩:=X.fill (x':=(vI k)) (y':=(vI n)) (z':=.string t) O Z O';have p:w.heap.size≠w.heap.size+1+1:=O'
 have MN:=((Y.beside (c':=#[]) (T':=0) p 0 (vI k)).beside (c':=#[]) (T':=0) p 1 (vI n)).beside (c':=#[]) (T':=0) p 2 (.string t);have FE:=((U.beside (c':=#[]) (T':=0) hp 0 (vI k)).beside (c':=#[]) (T':=0) hp 1 (vI n)).beside (c':=#[]) (T':=0) hp 2 (.string t);generalize((W2.setCell ⟨w.heap.size+1+1,0,none⟩ (vI k)).setCell ⟨w.heap.size+1+1,1,none⟩ (vI n)).setCell ⟨w.heap.size+1+1,2,none⟩ (.string t)=W3 at *
 refine leaves_cons (f:=141) (args:=#[vP w.heap.size,vP g]) Pg (by simp[go_sem]) ?_;refine(Zkw g1 MN FE O' .returning).mono ?_;rintro e u' w4⟨rfl,rfl,J,fN,u⟩;obtain⟨q0,q1,q2,-,-,-⟩:=(g3.fr u).six;refine⟨.tuple #[.agg #[vI k,vI n,.string t],ev],?_,?_⟩
 .rw[Array.getD_eq_getD_getElem?]at F I;simp[results,Tryz.results131,go_sem,F,I,q0,q1,q2]
 .have hs:({r.1 with calls:=r.1.calls-1,last:=s.last}:MSt)=(TO s r).1:=rfl;have lX:MAt C J w4 (TO s r).1:=fN;refine⟨J,by rw[y];exact lX,g2.trans u,?_⟩;rw[y];obtain⟨s9,q9⟩:=r;cases q9 with
  |error x9=>exact⟨⟨k,n,t⟩,ev,rfl,(g4 _ _ E).fr u⟩
  | ok v9 =>
    obtain⟨rfl,rfl⟩:=E;rfl
end
noncomputable def iA(p:List Nat):Code:=Cb p (Tryz.f142.body.getD .skip)
structure EnC(C:RCtx)(M:MRep)(w z:World)(x:CloR)(pn bd:ATree)(B:Nat)(v:Value)(vs:List LVal):Prop where
 ok:C.Ok
 old:C.w0.heap.size<=w.heap.size
 below:Below w.heap.size w z
 lc:Lo C M w z w.heap.size #[x.a.ptr,vI x.scope,.bool x.strict] 119
 lr:Lo C M w z (w.heap.size+1) #[vI 0,vI 0,.string ⟨#[]⟩] 55
 tr:TreeAt z B x.a
 fre:x.a.free M
 kids:x.a.kids=[pn,bd]
 row:∃wA,VRow C M wA z v vs
 few:vs.length<=1500
 fo:zU (x.a.nt C.N)
def sL(C:RCtx)(w:World)(v:Value)(nx:Int)(bd:ATree)(l:List (Nat×Value)):List (Nat×Value):=
 (0,vP C.mb)::(2,v)::(4,vP w.heap.size)::(6,.pointer (some ⟨w.heap.size+1,0,none⟩))::(8,vI nx)::(9,vP bd.b)::l
section
variable {C:RCtx}{M M1:MRep}{w z W:World}{s:MSt}{B:Nat}{x:CloR}{pn bd:ATree}{v:Value}{vs:List LVal}{nx:Int}{d:Nat}{A:Act}{K:Act->World->Prop}{Q:Exit->Act->World->Prop}
theorem EnC.two(h:EnC C M w z x pn bd B v vs):∃g m,2<=m∧m<=9223372036854775807∧∀p W,MFr M p z W->vC W w.heap.size 0 (vP x.a.b)∧vC W x.a.b 3 (.slice (some ⟨g,0,none⟩) 2 m)∧
 vC W g 0 (vP pn.b)∧vC W g 1 (vP bd.b):=by
 obtain⟨g,m,c3,u,E,o,y,h5⟩:=h.tr.row h.fre Qq;rw[h.kids]at c3 u o;refine⟨g,m,u,E,λp W f=>⟨(h.lc.fr f).cell rfl,(f.cell h.tr.lt h.fre.blk).trans c3,(f.cell y h5).trans (o 0 pn rfl),(f.cell y h5).trans (o 1 bd rfl)⟩⟩
theorem EnC.pnT(h:EnC C M w z x pn bd B v vs):TreeAt z B pn∧pn.free M:=⟨h.tr.kid Qq,h.fre.kid Qq⟩
theorem EnC.bdT(h:EnC C M w z x pn bd B v vs):TreeAt z B bd∧bd.free M:=⟨h.tr.kid Qq,h.fre.kid Qq⟩
theorem Zak{sc:Int}{p:NT}{l:List NT}{vs:List LVal}{s:MSt}:MSt.params sc (p::l) vs s=MSt.params sc l vs.tail (s.bindTo sc p.text (vs.headD LVal.zero)):=rfl
end
section
variable {C:RCtx}{M M1:MRep}{w z W:World}{s:MSt}{B:Nat}{x:CloR}{pn bd:ATree}{v:Value}{vs:List LVal}{nx:Int}{d:Nat}{A:Act}{K:Act->World->Prop}{Q:Exit->Act->World->Prop}
theorem Zji(hc:EnC C M w z x pn bd B v vs)(hM:MAt C M1 W s)(hF:MFr M M1 z W)(hI:Inv s (d+pn.kids.length))(hv:∀u∈vs,VQ s u)(hn:pn.kids.length<=1500)(fr:FrA 240 (sL C w v nx bd []) [] A)
 (HK:∀A' W' M',FrA 240 (sL C w v nx bd []) [] A'->MAt C M' W' (MSt.params nx (pn.kids.map (ATree.nt C.N)) vs s)->MFr M1 M' W W'->K A' W')(hQ:∀c a d v w,Q (.panic c) (Act.put a d v) w->Q (.panic c) a w) :
 (iA [1,1,1,0]).wp Tryz.prog (Exit.then K Q) A W:=by
 obtain⟨S,hS⟩:=zX (MSt.params nx (pn.kids.map (ATree.nt C.N)) vs s)
 rw[<-hS]at HK;obtain⟨wA,ae⟩:=hc.row;obtain⟨pv,cv,ic,jT,iT,iL⟩:=ae.form;obtain⟨kg,kc,AA,yN,hk⟩:=hc.two;have hpt:=hc.pnT;obtain⟨pp,cp,co,cr,eu,dc⟩:=jm.slice hpt.1.rowOf;have wg:=(hF.tree hpt.1 hpt.2).1.c3;rw[co]at wg;obtain⟨f0,f1,f2,f3⟩:=hk M1 W hF;have HO:=lh (Y4 (Y4 hc.old hc.below.size) hF.size);have qm:=lh co;refine ZS ?_;intro pq;have tV:=lh dc;have JK:=lh (hF.tree hpt.1 hpt.2);have eg:=lh HK;have ga:=lh hQ;have HM:=lh hM;have HV:=lh hv;obtain⟨P,hP⟩:=zX pn.kids
 obtain⟨q,hq⟩:=zX P.length
 obtain⟨n,bI⟩:=zX vs.length
 have DS:=lh (show n<=1500 by rw[bI];exact hc.few);rw[<-hP,<-hq]at hI wg cr hn;rw[<-hP]at hS tV;rw[<-bI]at ic jT;have ip:=lh hI;have HS:=lh hS;have HP:=lh hP;have HQ:=lh hq;have HN:=lh bI;unfold maxLen at iT;unfold sL at fr;subst ic;obtain⟨xt,rfl,e0,e2,e4,e6,e8,Z,-⟩:=Tt fr;rw[e0,e2,e4,e6,e8,Z];clear e0 e2 e4 e6 e8 Z fr hc hM hF hI hv HK hQ hS ae iL hk hpt co dc hP hq bI;conv=>arg 2;whnf
 go_wp2_with fail
 clear f0 f1 f2 f3 wg;go_loopw [56] (λi wr=>∃(k:Nat) (O:MRep) (m:MSt),k<=q∧i=(vI k)∧Hid (MAt C O wr m)∧Hid (MFr M1 O W wr)∧Hid (Inv m (d+(q-k)))∧Hid (Ext s m)∧Hid (S=MSt.params nx ((P.drop k).map (ATree.nt C.N)) (vs.drop k) m)) (λi _=>q-(intOf i).toNat)
 case atStart=>exact⟨0,M1,s,Yh _,rfl,HM,lh (.refl _ _),ip,lh (.refl _),HS⟩
 case round=>
  obtain⟨k,O,m,hk,rfl,da,bH,eA,dO,dY⟩:=hrel;by_cases bV:k<q
  .obtain⟨y,hy⟩:∃y,P[k]? =some y:=⟨_,Y6 Qg⟩
   obtain⟨g0,hp⟩:=tV.o k y hy;subst hp;have eD:y∈pn.kids:=by rw[<-HP.o];exact Yd hy
   have dT:=bH.o.tree JK.o.1 JK.o.2;have ae:=dT.1.rowOf;rw[qm.o]at ae;have cx:wr.cell? ⟨g0,k,none⟩=some (vP y.b):=jm.cell ae (b:=g0) rfl (by rw[<-HP.o];exact hy);have Z:P.drop k=y::P.drop (k+1):=by
    exact Zw5
   have CF:=lh (And.intro (dT.1.kid eD) (dT.2.kid eD));have aL:=Z1 wr (.cells #[vI 0,vI 0,.string ⟨#[]⟩] 55);have tW:=Lo.new (wE:=W) da.o bH.o.size HO.o #[vI 0,vI 0,.string ⟨#[]⟩] 55;have bZ:=lh (da.o.below aL);have bw:=lh (MFr.of_below (M:=O) aL);clear dT ae eD hy aL;rcases ua:vs[k]? with _|u
   .have Cr:¬k<n:=by rw[HN.o];exact λh=>by rw[Y6 h]at ua;cases ua
    have uc:vs.drop k=[]:=List.drop_eq_nil_of_le Qj;have FG:vs.drop (k+1)=[]:=List.drop_eq_nil_of_le Qj;have kf:LVal.zero.ok m.H.objects.length:=qC _;have j7:=lh tW;clear tW ua;go_wp2_with fail
    clear Cr;have F:=j7.o;have U:=bZ.o;have J:=bw.o;clear j7 bZ bw;generalize wr.alloc (.cells #[vI 0,vI 0,.string ⟨#[]⟩] 55)=W2 at F U J ⊢;generalize wr.heap.size=o at F U J ⊢;have g9:=lh F;have bW:=lh U;have aZ:=lh J
    have nK:=lh (show∀W' M',MFr O M' W2 W'->vC W' y.b 1 (.string y.text)∧vC W' o 0 (vI 0)∧vC W' o 1 (vI 0)∧vC W' o 2 (.string ⟨#[]⟩)from
     λW' M' f=>⟨((J.trans f).tree CF.o.1 CF.o.2).1.c1,(F.fr f).cell rfl,(F.fr f).cell rfl,(F.fr f).cell rfl⟩)
    have X:=YS (d:=d+(q-(k+1))) (sc:=nx) (name:=y.text) (v:=LVal.zero) (eA.o.less O') kf;obtain⟨cd,gJ⟩:=zX ((m.H.declare nx y.text 0 LVal.zero).2)
    have Y:=TN U.drew eA.o nx y.text 0 LVal.zero;have qv:=λ(W':World) (M':MRep) (h:MAt C M' W' m)=>X0 h eA.o nx y.text LVal.zero;simp only[LVal.agg]at Y qv;rw[<-gJ]at Y;have lW:=lh Y;have AJ:=lh qv;obtain⟨sb,aN⟩:=zX (m.bindTo nx y.text LVal.zero)
    have I:=dY.o;rw[Z,uc,List.map_cons,Zak,Zz]at I;rw[show([]:List LVal).tail=vs.drop (k+1)from FG.symm,show([]:List LVal).headD LVal.zero=LVal.zero from rfl]at I;rw[<-aN]at X I;have bD:=lh I;have tj:=lh X.1;have tt:=lh (dO.o.trans X.2);have cJ:=lh aN;have qw:=lh gJ;have ei:=lh (bH.o.trans J);clear F U J X Y qv gJ aN I kf cx Z uc
    refine Za [(true,0),(true,1),(true,2),(true,3),(true,4),(true,5),(true,6),(true,7),(true,8)] [9,10] (λW=>vC W y.b 1 (.string y.text)∧vC W o 0 (vI 0)∧vC W o 1 (vI 0)∧vC W o 2 (.string ⟨#[]⟩)) Pb Pb (λc a d v w h=>ga.o c a d v w h) (nK.o _ _ (.drew (.refl _ _))) (λbu=>?_);refine ep ?_;refine Z0 ?_;go_wp2_with fail
    refine lW.o.mono ?_;rintro e W3⟨rfl,M3,dL,bq⟩;have bE:=lh ((MFr.drew (.refl O W2)).trans bq);by_cases gB:cd=0
    .have cL:m.declare nx y.text 0 LVal.zero=sb:=by rw[cJ.o];unfold MSt.bindTo;rw[Y5 (qw.o▸gB)]
     rw[cL]at dL;have dq:=lh dL;exact Vm
    .have cL:m.declare nx y.text 0 LVal.zero=m:=by unfold MSt.declare;rw[Z61 (qw.o▸gB)];rfl
     have jb:m.write nx y.text LVal.zero=sb:=PO
     rw[cL]at dL;have hw:=AJ.o _ _ dL.drew;rw[jb]at hw;have HW:=lh hw;rw[show df cd=.iface 34 (vI cd) by unfold df;rw[Y3 gB]];clear dL bq cL jb gB hw;go_wp2_with fail
     refine Za [(true,0),(true,1),(true,2),(true,3),(true,4),(true,5),(true,6),(true,7),(true,8)] [9] (λW=>vC W y.b 1 (.string y.text)∧vC W o 0 (vI 0)∧vC W o 1 (vI 0)∧vC W o 2 (.string ⟨#[]⟩)) Pb Pb (λc a d v w h=>ga.o c a d v w h) (nK.o _ _ (bE.o.trans (.drew (.refl _ _)))) (λbu=>?_);exact Vf
   .have Cr:k<n:=by rw[HN.o];exact(List.getElem?_eq_some_iff.1 ua).1
    have uc:vs.drop k=u::vs.drop (k+1):=by
     obtain⟨h1,h2⟩:=List.getElem?_eq_some_iff.1 ua;rw[List.drop_eq_getElem_cons h1,h2]
    have kf:u.ok m.H.objects.length:=VQ.ext (HV.o u (Yd ua)) dO.o;obtain⟨gv,sP,fV⟩:=pq.o k u ua;subst sP;obtain⟨p,E,us⟩:=u;obtain⟨b0,b1,b2⟩:=fV O (wr.alloc (.cells #[vI 0,vI 0,.string ⟨#[]⟩] 55)) (bH.o.trans bw.o);simp only at b0 b1 b2;have j7:=lh (Lo.new (wE:=W) da.o bH.o.size HO.o #[vI p,vI E,.string us] 55);have aB:=Z1 wr (.cells #[vI p,vI E,.string us] 55);have dq:=lh (da.o.below aB);have bE:=lh (MFr.of_below (M:=O) aB);clear fV ua tW aB
    go_wp2_with fail
    clear Cr;have F:=j7.o;have U:=dq.o;have J:=bE.o;clear j7 bZ bw dq bE b0 b1 b2;generalize wr.alloc (.cells #[vI p,vI E,.string us] 55)=W2 at F U J ⊢;generalize wr.heap.size=o at F U J ⊢;have g9:=lh F;have bW:=lh U;have aZ:=lh J
    have nK:=lh (show∀W' M',MFr O M' W2 W'->vC W' y.b 1 (.string y.text)∧vC W' o 0 (vI p)∧vC W' o 1 (vI E)∧vC W' o 2 (.string us)from
     λW' M' f=>⟨((J.trans f).tree CF.o.1 CF.o.2).1.c1,(F.fr f).cell rfl,(F.fr f).cell rfl,(F.fr f).cell rfl⟩)
    have X:=YS (d:=d+(q-(k+1))) (sc:=nx) (name:=y.text) (v:=⟨p,E,us⟩) (eA.o.less O') kf;obtain⟨cd,gJ⟩:=zX ((m.H.declare nx y.text 0 ⟨p,E,us⟩).2)
    have Y:=TN U.drew eA.o nx y.text 0 ⟨p,E,us⟩;have qv:=λ(W':World) (M':MRep) (h:MAt C M' W' m)=>X0 h eA.o nx y.text ⟨p,E,us⟩;simp only[LVal.agg]at Y qv;rw[<-gJ]at Y;have lW:=lh Y;have AJ:=lh qv;obtain⟨sb,aN⟩:=zX (m.bindTo nx y.text ⟨p,E,us⟩)
    have I:=dY.o;rw[Z,uc,List.map_cons,Zak,Zz]at I;rw[show((⟨p,E,us⟩:LVal)::vs.drop (k+1)).tail=vs.drop (k+1)from rfl,show((⟨p,E,us⟩:LVal)::vs.drop (k+1)).headD LVal.zero=⟨p,E,us⟩from rfl]at I;rw[<-aN]at X I;have bD:=lh I;have tj:=lh X.1;have tt:=lh (dO.o.trans X.2);have cJ:=lh aN;have qw:=lh gJ;have ei:=lh (bH.o.trans J);clear F U J X Y qv gJ aN I kf cx Z uc
    refine Za [(true,0),(true,1),(true,2),(true,3),(true,4),(true,5),(true,6),(true,7),(true,8)] [9,10] (λW=>vC W y.b 1 (.string y.text)∧vC W o 0 (vI p)∧vC W o 1 (vI E)∧vC W o 2 (.string us)) Pb Pb (λc a d v w h=>ga.o c a d v w h) (nK.o _ _ (.drew (.refl _ _))) (λbu=>?_);refine ep ?_;refine Z0 ?_;go_wp2_with fail
    refine lW.o.mono ?_;rintro e W3⟨rfl,M3,dL,bq⟩;have bE:=lh ((MFr.drew (.refl O W2)).trans bq);by_cases gB:cd=0
    .have cL:m.declare nx y.text 0 ⟨p,E,us⟩=sb:=by rw[cJ.o];unfold MSt.bindTo;rw[Y5 (qw.o▸gB)]
     rw[cL]at dL;have dq:=lh dL;exact Vm
    .have cL:m.declare nx y.text 0 ⟨p,E,us⟩=m:=by unfold MSt.declare;rw[Z61 (qw.o▸gB)];rfl
     have jb:m.write nx y.text ⟨p,E,us⟩=sb:=PO
     rw[cL]at dL;have hw:=AJ.o _ _ dL.drew;rw[jb]at hw;have HW:=lh hw;rw[show df cd=.iface 34 (vI cd) by unfold df;rw[Y3 gB]];clear dL bq cL jb gB hw;go_wp2_with fail
     refine Za [(true,0),(true,1),(true,2),(true,3),(true,4),(true,5),(true,6),(true,7),(true,8)] [9] (λW=>vC W y.b 1 (.string y.text)∧vC W o 0 (vI p)∧vC W o 1 (vI E)∧vC W o 2 (.string us)) Pb Pb (λc a d v w h=>ga.o c a d v w h) (nK.o _ _ (bE.o.trans (.drew (.refl _ _)))) (λbu=>?_);exact Vf
  .have aR:k=q:=by omega
   subst aR;have I:=dY.o;rw[List.drop_eq_nil_of_le Qr]at I;have am:S=m:=I;go_wp2_with fail
   exact eg.o _ _ O ⟨rfl,⟨rfl,rfl,rfl,rfl,rfl,rfl,trivial⟩,rfl⟩ PT bH.o
end
section
variable {C:RCtx}{M M1:MRep}{w z W:World}{s:MSt}{B:Nat}{x:CloR}{pn bd:ATree}{v:Value}{vs:List LVal}{nx:Int}{d:Nat}{A:Act}{K:Act->World->Prop}{Q:Exit->Act->World->Prop}
theorem Zd2:Zd.toList=[97,114,103,117,109,101,110,116,115]:=by kernel_rfl
theorem Zqs(hc:EnC C M w z x pn bd B v vs)(I:MFr M M1 z W)(hn:bd.kids.length<=1500){o:Bool}(fr:FrA 240 (sL C w v nx bd [(13,.bool o)]) [] A)
 (HK:∀J O,FrA 240 (sL C w v nx bd [(13,.bool (o||(bd.nt C.N).funcs.any λk=>Zg k.text Zd))]) [] J->Below W.heap.size W O->K J O) :
 (iA [1,1,1,1,1,0]).wp Tryz.prog (Exit.then K Q) A W:=by
 rw[VB]at HK;have m:=hc.bdT;have p:=I.tree m.1 m.2;have HL:=lh (Vw W B bd p.1 O');obtain⟨P,E⟩:=zX (bd.kids.filter wW)
 rw[<-E]at HL HK;have oV:=lh (show∀x∈P,x∈bd.kids from λx hx=>(List.mem_filter.1 (E▸hx)).1);have U:=lh p.1;have eg:=lh HK;unfold sL at fr;obtain⟨pv,nv,cv,rfl⟩:∃pv nv cv,v=.slice pv nv cv:=by
  exact KF
 obtain⟨xt,rfl,X,Y,Z,e6,e8,e9,ud,-⟩:=Tt fr;rw[X,Y,Z,e6,e8,e9,ud];clear X Y Z e6 e8 e9 ud fr hc I HK m p E;unfold ATree.ptr at HL;conv=>arg 2;whnf
 go_wp2_with fail
 refine HL.o.mono ?_;rintro e w2⟨v2,rfl,g,F⟩;obtain⟨p2,jP,rfl,dN,fZ,dn⟩:=g.slice;refine Ht ?_;intro q cT ng;rw[<-cT]at dN g ⊢;have N2:=lh g;have gZ:=lh dn;have d7:=lh cT;have aO:=lh F;have gr:=lh (U.o.bel F);clear g F dn cT HL U;go_wp2_with fail
 go_loopw [13,99] (λu i wr=>∃(k:Nat) (c:Bool),k<=q∧u=.bool c∧i=(vI k)∧wr=w2∧Hid ((o||(P.map (ATree.nt C.N)).any λk=>Zg k.text Zd)=(c||((P.drop k).map (ATree.nt C.N)).any λk=>Zg k.text Zd))) (λ_ i _=>q-(intOf i).toNat)
 case atStart=>exact⟨0,o,Yh _,rfl,rfl,rfl,lh (by rw[List.drop_zero])⟩
 case round=>
  exact XW
theorem Zri(hc:EnC C M w z x pn bd B v vs)(I:MFr M M1 z W)(hn:bd.kids.length<=1500){o:Bool}(fr:FrA 240 (sL C w v nx bd [(13,.bool o)]) [] A)
 (HK:∀J O,FrA 240 (sL C w v nx bd [(13,.bool (o||(bd.nt C.N).lets.any λk=>Zg k.text Zd))]) [] J->Below W.heap.size W O->K J O) :
 (iA [1,1,1,1,1,1,0]).wp Tryz.prog (Exit.then K Q) A W:=by
 rw[YB]at HK;have m:=hc.bdT;have p:=I.tree m.1 m.2;have HL:=lh (Va W B bd p.1 O');obtain⟨P,E⟩:=zX (bd.kids.filter wH)
 rw[<-E]at HL HK;have oV:=lh (show∀x∈P,x∈bd.kids from λx hx=>(List.mem_filter.1 (E▸hx)).1);have U:=lh p.1;have eg:=lh HK;unfold sL at fr;obtain⟨pv,nv,cv,rfl⟩:∃pv nv cv,v=.slice pv nv cv:=by
  exact KF
 obtain⟨xt,rfl,X,Y,Z,e6,e8,e9,ud,-⟩:=Tt fr;rw[X,Y,Z,e6,e8,e9,ud];clear X Y Z e6 e8 e9 ud fr hc I HK m p E;unfold ATree.ptr at HL;conv=>arg 2;whnf
 go_wp2_with fail
 refine HL.o.mono ?_;rintro e w2⟨v2,rfl,g,F⟩;obtain⟨p2,jP,rfl,dN,fZ,dn⟩:=g.slice;refine Ht ?_;intro q cT ng;rw[<-cT]at dN g ⊢;have N2:=lh g;have gZ:=lh dn;have d7:=lh cT;have aO:=lh F;have gr:=lh (U.o.bel F);clear g F dn cT HL U;go_wp2_with fail
 go_loopw [13,115] (λu i wr=>∃(k:Nat) (c:Bool),k<=q∧u=.bool c∧i=(vI k)∧wr=w2∧Hid ((o||(P.map (ATree.nt C.N)).any λk=>Zg k.text Zd)=(c||((P.drop k).map (ATree.nt C.N)).any λk=>Zg k.text Zd))) (λ_ i _=>q-(intOf i).toNat)
 case atStart=>exact⟨0,o,Yh _,rfl,rfl,rfl,lh (by rw[List.drop_zero])⟩
 case round=>
  exact XW
theorem Zk9{n:ByteArray}{l:List ByteArray}{sc:Int}:s.vars (n::l) sc=(s.declare sc n 0 LVal.zero).vars l sc:=rfl
theorem Zs8(hc:EnC C M w z x pn bd B v vs)(U:MAt C M1 W s)(X:MFr M M1 z W)(hm:bd.many<=1500)(hI:Inv s (d+(yw bd).length)){Y:Value}(fr:FrA 240 (sL C w v nx bd [(21,Y)]) [] A)
 (m:∀Z E M',FrA 240 (sL C w v nx bd [(21,Y)]) [] Z->MAt C M' E (s.vars (bd.nt C.N).vars nx)->MFr M1 M' W E->K Z E) :
 (iA [1,1,1,1,1,1,1,1,1,0]).wp Tryz.prog (Exit.then K Q) A W:=by
 rw[Tz]at m;have F:=hc.bdT;have cH:=X.tree F.1 F.2;have HL:=lh (Xv W B bd cH.1 O');obtain⟨P,hP⟩:=zX (yw bd)
 obtain⟨S,I⟩:=zX (s.vars P nx)
 rw[<-hP]at HL m hI;rw[<-I]at m;have eg:=lh m;have HS:=lh I;have J:=lh U;unfold sL at fr;obtain⟨pv,nv,cv,rfl⟩:∃pv nv cv,v=.slice pv nv cv:=by
  exact KF
 obtain⟨xt,rfl,e0,e2,e4,e6,e8,e9,qx,-⟩:=Tt fr;rw[e0,e2,e4,e6,e8,e9,qx];clear e0 e2 e4 e6 e8 e9 qx fr hc X m F cH hP U I;unfold ATree.ptr at HL;conv=>arg 2;whnf
 go_wp2_with fail
 refine HL.o.mono ?_;rintro e w2⟨v2,rfl,o,O,ny⟩;obtain⟨p2,jP,rfl,dN,fZ,dn⟩:=o.form2;have iU:∀g,(Value.slice p2 P.length jP).ownBlock=some g->g<w2.heap.size∧¬M1.has g:=λg hg=>⟨(Y9 o g hg).2,J.o.fresh (Y9 o g hg).1⟩;refine Ht ?_;intro q cT ng;have eY:=lh o;have lV:=lh iU;rw[<-cT]at dN hI ⊢;have gZ:=lh dn;have d7:=lh cT;have aO:=lh O;have bW:=lh (J.o.below O);have ip:=lh hI;clear o O dn iU cT HL ny hI J;go_wp2_with fail
 go_loopw [173] (λi wr=>∃(k:Nat) (u:MRep) (p:MSt),k<=q∧i=(vI k)∧Hid (MAt C u wr p)∧Hid (MFr M1 u w2 wr)∧Hid (Inv p (d+(q-k)))∧Hid (S=p.vars (P.drop k) nx)) (λi _=>q-(intOf i).toNat)
 case atStart=>exact⟨0,M1,s,Yh _,rfl,bW,lh (.refl _ _),ip,lh Qu⟩
 case round=>
  obtain⟨k,u,p,hk,rfl,da,bH,eA,dY⟩:=hrel;by_cases bV:k<q
  .obtain⟨y,hy⟩:∃y,P[k]? =some y:=⟨_,Y6 Pr⟩
   obtain⟨g0,hp⟩:=gZ.o k y hy;subst hp;obtain⟨mF,jh⟩:=lV.o g0 rfl;have cx:=(bH.o.cell mF jh).trans (eY.o.cells rfl hy);have fm:=TN da.o eA.o nx y 0 LVal.zero;simp only[LVal.agg,LVal.zero]at fm;have lW:=lh fm;have hR:=dY.o;rw[show P.drop k=y::P.drop (k+1) by
    obtain⟨hl,he⟩:=List.getElem?_eq_some_iff.1 hy;rw[List.drop_eq_getElem_cons hl,he],Zk9]at hR
   have HR:=lh hR;have jz:=Ta (d:=d+(q-(k+1))) (sc:=nx) (name:=y) (kind:=0) (v:=LVal.zero) (eA.o.less O') (qC _) Pa Pa;exact XN
  .have aR:k=q:=by omega
   subst aR;have hR:=dY.o;rw[List.drop_eq_nil_of_le Pz]at hR;have am:S=p:=hR;go_wp2_with fail
   exact eg.o _ _ u ⟨rfl,⟨rfl,rfl,rfl,rfl,rfl,rfl,rfl,trivial⟩,rfl⟩ PT ((MFr.of_below aO.o).trans bH.o)
end
section
variable {C:RCtx}{M M1:MRep}{w z W:World}{s:MSt}{B:Nat}{x:CloR}{pn bd:ATree}{v:Value}{vs:List LVal}{nx:Int}{d:Nat}{A:Act}{K:Act->World->Prop}{Q:Exit->Act->World->Prop}
theorem Ze1{o:Int}{i:Nat}{u:LVal}{l:List LVal}:MSt.argsPut o i (u::l) s=MSt.argsPut o (i+1) l (s.put o (MSt.argN i) u false):=rfl
theorem Zex{o:Int}{i:Nat}:MSt.argsPut o i [] s=s:=rfl
theorem Zqy(gK:F9 C.w0)(hc:EnC C M w z x pn bd B v vs)(hM:MAt C M1 W s)(hF:MFr M M1 z W)(hI:Inv s (d+vs.length+3))(hv:∀u∈vs,VQ s u){o:Bool}(fr:FrA 240 (sL C w v nx bd [(13,.bool o)]) [] A)
 (HK:∀A' W' M',FrA 240 (sL C w v nx bd []) [] A'->MAt C M' W' (if o then s else s.argsObj nx vs)->MFr M1 M' W W'->K A' W')(hQ:∀c a d v w,Q (.panic c) (Act.put a d v) w->Q (.panic c) a w) :
 (iA [1,1,1,1,1,1,1,0]).wp Tryz.prog (Exit.then K Q) A W:=by
 obtain⟨wA,ae⟩:=hc.row;obtain⟨pv,cv,ic,jT,iT,iL⟩:=ae.form;have FH:=hc.few;have HO:=lh (Y4 (Y4 hc.old hc.below.size) hF.size);refine ZS ?_;intro pq;have wj:=lh gK;have eg:=lh HK;have ga:=lh hQ;have HM:=lh hM;have HV:=lh hv;obtain⟨n,bI⟩:=zX vs.length
 rw[<-bI]at ic jT FH hI;have ip:=lh hI;have HN:=lh bI;unfold maxLen at iT;unfold sL at fr;subst ic;obtain⟨xt,rfl,e0,e2,e4,e6,e8,e9,ud,-⟩:=Tt fr;rw[e0,e2,e4,e6,e8,e9,ud];clear e0 e2 e4 e6 e8 e9 ud fr hc hM hF hI hv HK hQ ae iL bI gK;conv=>arg 2;whnf
 cases o;case true=>
  go_wp2_with fail
  exact eg.o _ _ M1 ⟨rfl,⟨rfl,rfl,rfl,rfl,rfl,rfl,trivial⟩,rfl⟩ HM.o (.refl _ _)
 case false=>
  obtain⟨m,dM⟩:=zX s.nextO
  obtain⟨s1,Z⟩:=zX (s.object 0)
  obtain⟨s2,cO⟩:=zX (s1.put m VZ (.num n) false)
  have hob:=Yw HM.o ip.o 0;rw[<-dM,<-Z]at hob;have lQ:=lh hob;have i1:=ip.o.object (d:=d+n+2) (code:=0) Pa O';rw[<-Z]at i1;have i2:=zq (d:=d+n+1) (o:=m) (name:=VZ) (v:=.num n) (fx:=false) i1.1 (Zgd O' O');rw[<-cO]at i2;have eL:=lh i1.1;have oK:=lh i2.1;have xO:=lh (i1.2.trans i2.2);have ye:=lh (show 0<=m∧m<s1.H.objects.length by
   rw[dM,Z];refine⟨by show(0:Int)<=s.H.objects.length;omega,?_⟩;have:(s.object 0).H.objects.length=s.H.objects.length+1:=QU
   rw[this];show(s.H.objects.length:Int)<_;omega)
  have MO:=lh i2.2;obtain⟨S,hS⟩:=zX (MSt.argsPut m 0 vs s2)
  have bR:=lh (show S.declare nx Zd 0 (.ref m)=s.argsObj nx vs by rw[hS,cO,Z,dM,HN.o];rfl);have HS:=lh hS;have cD:=lh cO;clear hob i1 i2 dM Z cO hS;go_wp2_with fail
  refine lQ.o.mono ?_;rintro e W1⟨rfl,Ma,nL,iG⟩;have CG:=lh nL;have ea:=lh iG;clear nL iG lQ;go_wp2_with fail
  refine Za [(true,0),(true,1),(true,2),(true,3),(true,4),(true,5),(false,6)] [7] (λ_=>True) Pb Pb (λc a d v w h=>ga.o c a d v w h) trivial (λbu=>?_);refine ep ?_;refine Z6 (λK hK=>?_);go_simp
  refine(Zju _ _).mono ?_;rintro e W2⟨rfl,au⟩;have p:=CG.o.drew.below au;have y:=(MFr.drew (.refl Ma W1)).trans (.of_below au);refine hK _ _ trivial ?_;clear hK K;have hpt:=yB p eL.o m VZ (.num n) false;rw[<-cD.o]at hpt;simp only[LVal.agg,LVal.num,VZ]at hpt;have kD:=lh hpt;have aZ:=lh (ea.o.trans y);clear p y au hpt CG ea;simp only[LVal.agg];refine Z0 ?_;go_wp2_with fail
  refine kD.o.mono ?_;rintro e W3⟨rfl,M3,dL,bq⟩;have dq:=lh dL;have bE:=lh (aZ.o.trans bq);clear dL bq kD aZ;obtain⟨fg,qs⟩:=zX (df (s1.H.put m ⟨#[108,101,110,103,116,104]⟩ ⟨3,n,⟨#[]⟩⟩ false).2)
  rw[<-qs];clear qs;go_wp2_with fail
  go_loopw [144] (λi wr=>∃(k:Nat) (F:MRep) (I:MSt),k<=n∧i=(vI k)∧Hid (MAt C F wr I)∧Hid (MFr M1 F W wr)∧Hid (Inv I (d+1+(n-k)))∧Hid (Ext s2 I)∧Hid (S=MSt.argsPut m k (vs.drop k) I)) (λi _=>n-(intOf i).toNat)
  case atStart=>exact⟨0,M3,s2,Yh _,rfl,dq,bE,lh (oK.o.less O'),lh (.refl _),lh Qu⟩
  case round=>
   obtain⟨k,F,I,hk,rfl,da,bH,eA,dO,dY⟩:=hrel;by_cases bV:k<n
   .obtain⟨u,hu⟩:∃u,vs[k]? =some u:=⟨_,Y6 Pu⟩
    have uc:vs.drop k=u::vs.drop (k+1):=by
     obtain⟨h1,h2⟩:=List.getElem?_eq_some_iff.1 hu;rw[List.drop_eq_getElem_cons h1,h2]
    have kf:u.ok I.H.objects.length:=VQ.ext (VQ.ext (HV.o u (Yd hu)) xO.o) dO.o;obtain⟨gv,sP,fV⟩:=pq.o k u hu;subst sP;obtain⟨J,O,us⟩:=u;obtain⟨b0,b1,b2⟩:=fV F wr bH.o;simp only at b0 b1 b2;have hpt:=λ(W':World) (M':MRep) (h:MAt C M' W' I)=>yB h eA.o m (MSt.argN k) ⟨J,O,us⟩ false;simp only[LVal.agg,MSt.argN]at hpt;have kD:=lh hpt;have U:=dY.o;rw[uc,Ze1]at U;have HR:=lh U
    have jz:=zq (d:=d+1+(n-(k+1))) (o:=m) (name:=MSt.argN k) (v:=⟨J,O,us⟩) (fx:=false) (eA.o.less O') kf;have tz:=lh jz.1;have Fx:=lh (dO.o.trans jz.2);have E:=Lo.new (wE:=W) da.o bH.o.size HO.o #[vI J,vI O,.string us] 55;have X:=Z1 wr (.cells #[vI J,vI O,.string us] 55);have p:=da.o.below X;have y:=MFr.of_below (M:=F) X;have g9:=lh E;have bW:=lh p;have aZ:=lh y;clear fV hu uc kf hpt U jz E X p y;go_wp2_with fail
    have E:=g9.o;have p:=bW.o;have y:=aZ.o;clear g9 bW aZ b0 b1 b2;generalize wr.alloc (.cells #[vI J,vI O,.string us] 55)=W2 at E p y ⊢;generalize wr.heap.size=Y at E p y ⊢;have bW:=lh p;have ei:=lh (bH.o.trans y)
    have nK:=lh (show∀W' M',MFr F M' W2 W'->vC W' Y 0 (vI J)∧vC W' Y 1 (vI O)∧vC W' Y 2 (.string us)from
     λW' M' f=>⟨(E.fr f).cell rfl,(E.fr f).cell rfl,(E.fr f).cell rfl⟩)
    clear E p y;refine Za [(true,0),(true,1),(true,2),(true,3),(true,4),(true,7),(false,5),(true,6)] [8] (λW=>vC W Y 0 (vI J)∧vC W Y 1 (vI O)∧vC W Y 2 (.string us)) Pb Pb (λc a d v w h=>ga.o c a d v w h) (nK.o _ _ (.drew (.refl _ _))) (λbu=>?_);refine ep ?_;refine Z6 (λK hK=>?_);go_simp
    refine(Zgh _ (k:Int) O' O' (wj.o.below bW.o.drew.old)).mono ?_;rintro e W3⟨rfl,X⟩;have F3:=(MFr.drew (.refl F W2)).trans (.of_below X);refine hK _ _ (nK.o _ _ F3) ?_;clear hK K;have dq:=lh (bW.o.drew.below X);have bE:=lh (ei.o.trans F3);clear X F3;have MP:=lh (show¬9223372036854775807<1+(Lib.itoa (k:Int)).length by have:=Lib.itoa_length_le (k:Int) O' O';omega);refine Z9s ?_ Po (λw' lS=>?_) ?_;rotate_left
    .obtain⟨s0,s1,s2⟩:=lS;go_simp
     rw[Y3 MP.o];first|done|with_reducible rfl
    simp only[Act.put,zA,zB,zC];refine Z0 ?_;have MQ:=lh (kD.o _ _ dq.o);go_wp2_with fail
    refine MQ.o.mono ?_;rintro e W4⟨rfl,M4,fN,bh⟩;have jg:=lh fN;have kC:=lh (bE.o.trans bh);clear fN bh;go_wp2_with fail
    go_roundw
    case rel=>exact⟨k+1,M4,_,by omega,by go_num,jg,kC,tz,Fx,HR⟩
    case measure=>simp[intOf];omega
   .have aR:k=n:=by omega
    subst aR;have U:=dY.o;rw[List.drop_eq_nil_of_le PS,Zex]at U;have fm:=TN da.o eA.o nx Zd 0 (.ref m);rw[<-U,bR.o]at fm;simp only[LVal.agg,LVal.ref,Zd]at fm;have lW:=lh fm;clear U fm;go_wp2_with fail
    refine lW.o.mono ?_;rintro e W4⟨rfl,M4,fN,bh⟩;have jg:=lh fN;have kC:=lh (bH.o.trans bh);exact Zut
end
