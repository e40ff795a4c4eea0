import Derived.Test.YtkjdnecemhilpaaGreatDoorJ26
import Derived.Shelf.Strings.OnBuilder
set_option maxRecDepth 100000
set_option maxHeartbeats 20000000
set_option linter.all false
namespace Go.Proofs.YtkjdnecemhilpaaGreatDoor
open Go Go.RowKit Go.Proofs.Tryz Tryz
section
variable {C:RCtx}{M M1:MRep}{w z W:kV}{s:MSt}{B:Nat}{a x0:ATree}{l:List ATree}{V:VF}{D:DF}{b sc:Int}{fr:Frm}{d:Nat}{A:Act}{K:Act->kV->Prop}{vs:List LVal}{v:Value}{code:Int}{RR:MSt×Except Er LVal}
theorem Zmm:ef [1,1,1,1,1,1,1,1]=Code.seq (ef [1,1,1,1,1,1,1,1,0]) (Code.seq (ef [1,1,1,1,1,1,1,1,1,0]) (Code.seq (ef [1,1,1,1,1,1,1,1,1,1,0]) (Code.seq (ef [1,1,1,1,1,1,1,1,1,1,1,0]) (Code.seq (ef [1,1,1,1,1,1,1,1,1,1,1,1,0]) (Code.seq (ef [1,1,1,1,1,1,1,1,1,1,1,1,1,0]) (ef [1,1,1,1,1,1,1,1,1,1,1,1,1,1])))))):=by kernel_rfl
theorem Zbv:UB.toList=[101,118,97,108]:=by kernel_rfl
def MAt.clo(h:MAt C M1 W s){k:Nat}{x:CloR}(hx:M1.cl[k]?=some x):∃g cap,M1.row 3=.slice (some ⟨g,0,none⟩) M1.cl.length cap/\M1.cl.length<=cap/\cap<=maxLen/\g<W.heap.size/\M1.has g/\vC W C.mb 9 (.slice (some ⟨g,0,none⟩) M1.cl.length cap)/\
 W.cell? ⟨g,k*3,none⟩=some (vP x.a.b)/\W.cell? ⟨g,k*3+1,none⟩=some (vI x.scope)/\W.cell? ⟨g,k*3+2,none⟩=some (.bool x.strict):=by
 have o:W.ownsRow 0 149 3 (M1.row 3) M1.cl.length (M1.cl.flatMap CloR.cells):=h.rows 3 Qg;have hc:=h.rcell 3 Qg;have hl:=(List.getElem?_eq_some_iff.1 hx).1;rcases Z4 o with⟨hv,F⟩|⟨g,c,hv,p,u,y⟩;·omega
 .rw[hv]at hc
  exact⟨g,c,hv,p,u,y,.inr ⟨3,by decide,by rw[hv];rfl⟩,hc,SV (f:=CloR.cells) (m:=3) (λ_=>rfl) o (g:=g) QB (i:=k) (j:=0) hx rfl,
   SV (f:=CloR.cells) (m:=3) (λ_=>rfl) o (g:=g) QB (i:=k) (j:=1) hx rfl,SV (f:=CloR.cells) (m:=3) (λ_=>rfl) o (g:=g) QB (i:=k) (j:=2) hx rfl⟩
def Zul(gm:K' C.w0)(hW:Words C.w0)(hL:EO C.w0 C.w0.heap.size)(cV:FR C D b)(hD:DH D b)(hc:CaC C M w z a x0 l B fr)(y:MAt C M1 W s)(J:MFr M M1 z W)(hI:Inv s (d+17000))(hA:FAt s sc fr)(hb:b<=s.steps)(hs:s.steps<=20000)
 (Z:∃wA,VRow C M1 wA W v vs)(dD:∀u∈vs,VQ s u)(hl:vs.length<=1500)(gj:0<=code/\code<3+s.clos.length/\code≠0/\code≠1)(h2:code=2->∃u l',vs=u::l')
 (F:RR=if s.calls=40 then(s,.error (.thr (.say Ul)))else Wy s (VL D (a.nt C.N) sc fr code vs {s with calls:=s.calls+1}))(lM:FrA 214 (Us C w a sc [(12,v),(17,vI code)]) [] A) :
 (ef [1,1,1,1,1,1,1,1]).wp Tryz.prog (Znz Tryz.prog f133 (λe w'=>bK C M w RR e w')) A W:=by
 obtain⟨kg,kc,cB,aT,hk⟩:=hc.two;obtain⟨wA,Z⟩:=Z;have uE:∃wA,VRow C M1 wA W v vs:=⟨wA,Z⟩
 obtain⟨pv,cv,gV,jP,iR,iL⟩:=Z.form;have l0:=(hc.lm.fr J).cell (i:=0) rfl;have De:=y.cell 13 (vI s.calls) Qq;have Bb:=y.cell 14 (vI s.last.kind) Qq;have Bc:=y.cell 15 (vI s.last.n) Qq;have uc:=y.cell 16 (.string s.last.s) Qq;have Ko:=y.fz 13;have By:=hI.calls;obtain⟨n,bH⟩:=zX vs.length
 have dr:v=.slice pv n cv:=by rw[bH];exact gV
 obtain⟨iN,HLR,HBZ,HM,HF⟩:=gq hc hc.lr hc.below y J;obtain⟨p,sY⟩:=zX s.calls
 rw[<-sY]at De F By;have jB:IntKind.i64.wrap (p+1)=p+1:=Yv _ Qe;obtain⟨lk,fm⟩:=zX s.last.kind
 obtain⟨ln,ia⟩:=zX s.last.n
 obtain⟨lt,aA⟩:=zX s.last.s
 rw[<-fm]at Bb;rw[<-ia]at Bc;rw[<-aA]at uc;have dL:w.heap.size≠C.mb:=λe=>(hc.lm.fr J).free (e▸y.mbHas);unfold Us at lM;rw[dr]at lM;obtain⟨xt,rfl,e1,e2,e4,e7,e8,lN,Bz,-⟩:=Zer lM;rw[e1,e2,e4,e7,e8,lN,Bz];clear e1 e2 e4 e7 e8 lN Bz lM;rw[Zmm];by_cases GY:p=40
 .rw[Y5 GY]at F;have fe:=lh F;subst GY;have kt:=LW y Ul;simp only[Ul]at kt;have uY:=lh kt;clear gm hW hL cV hD hc y J hI hA hb hs Z uE dD hl gj h2 F hk iL kt gV dr Bb Bc uc sY fm ia aA;refine wp_seq_k (λK hK=>?_);clear hK;conv=>arg 2;whnf
  go_wp2_with fail
  refine uY.o.mono ?_;rintro e w5⟨o7,rfl,rp,eO⟩;have xK:=lh (show ax C M1 w5 (.thr (.say Ul)) o7 from rp);exact Aaz
 ·rw [Y3 GY] at F;obtain ⟨s1, O⟩ : ∃ s1 : MSt, s1 = { s with calls := p + 1 } := ⟨_, rfl⟩
  rw[<-O]at F;obtain⟨r,hr⟩:=zX (VL D (a.nt C.N) sc fr code vs s1)
  rw[<-hr]at F;have fX:Inv s1 (d+17000):=by rw[O];exact(Inv.turn (k:=s.steps) (c:=p+1) (v:=s.last) (d':=d+17000) hI (Int.le_refl _) hI.steps.2 Qe hI.last Qe).1
  have GZ:Ext s s1:=by rw[O];exact⟨Y0 _,λi c h=>⟨c,h,rfl,rfl⟩,Y0 _,⟨[],(List.append_nil _).symm⟩,⟨[],(List.append_nil _).symm⟩,rfl,rfl,rfl,Int.le_refl _,⟨[],(List.append_nil _).symm⟩,⟨[],(List.append_nil _).symm⟩⟩
  have kD:=hA.ext GZ;have wS:∀u∈vs,VQ s1 u:=λu hu=>VQ.ext (dD u hu) GZ;have dv:s1.steps=s.steps:=by rw[O]
  have oI:s1.clos=s.clos:=by rw[O]
  have am:=Zi6 (n:=a.nt C.N) (code:=code) (args:=vs) (d:=d) hD fX kD ⟨gj.1,by rw[oI];exact gj.2.1,gj.2.2.1,gj.2.2.2⟩ wS hl Qe Qe;rw[<-hr]at am;obtain⟨yK,pQ,fe⟩:=ds (show r.1.calls=s.calls+1 from am.2.2.1.trans (by rw[O,sY])) (show 0<=s.calls/\s.calls<=40 from hI.calls) F;obtain⟨U,g2⟩:=Zeh y (p+1);have U:MAt C M1 (W.setCell ⟨C.mb,13,none⟩ (vI (p+1))) s1:=by rw[O];exact U
  obtain⟨W1,ux⟩:=zX (W.setCell ⟨C.mb,13,none⟩ (vI (p+1)))
  rw[<-ux]at U g2;have qo:W1.heap.size=W.heap.size:=by rw[ux];simp[World.setCell]
  have ar:=Z2 W1 (.cells #[vI lk,vI ln,.string lt] 71);have cZ:=Lo.new (wE:=w) U (by rw[qo];exact Y4 hc.below.size J.size) hc.old #[vI lk,vI ln,.string lt] 71;rw[qo]at cZ;obtain⟨W2,gF⟩:=zX (W1.alloc (.cells #[vI lk,vI ln,.string lt] 71))
  rw[<-gF]at cZ ar;have aO:=U.below ar;have qM:=g2.trans (.of_below ar);have ap:=J.trans qM;have BA:W.heap.size≠w.heap.size+1+1:=by have:=hc.lr.lt;have:=J.size;omega
  rw[fm,ia,aA]at cZ;obtain⟨gS,yL,X,bc,fA,pg,oH⟩:=kF cZ BA aO ap (show W2=(W.setCell ⟨C.mb,13,none⟩ (vI (p+1))).alloc (.cells #[vI lk,vI ln,.string lt] 71) by rw[gF,ux]) hk (show∃wA,VRow C M1 wA W2 v vs from⟨wA,Z.fr qM⟩)
  have pE:=lh (show∀(i:Nat) (u:LVal),vs[i]?=some u->∃g,pv=some ⟨g,0,none⟩/\∀M' m,MFr M1 M' W2 m->m.cell? ⟨g,i*3+2,none⟩=some (.string u.s)from
   λi u hu=>by
    obtain⟨g,e1,e2,e3,a0,a1,a2⟩:=iL i u hu;exact⟨g,e1,λM' m f=>((qM.trans f).cell e2 e3).trans a2⟩)
  obtain⟨HR,eF,o5,fD,fP,Y,BB,H2,kR,iU,HD,G7⟩:=tq hr fX kD wS hl (show b<=s1.steps/\s1.steps<=20000 by omega) gj h2 (Yu gm (Yu hW hL)) cV hD hc.ok;obtain⟨Og,pP,Oh,G8,PN⟩:=gq dr bH oI y.clos qM;clear gm hW hL cV hD hc y J hI hA hb hs Z uE dD hl gj h2 F hk iL gV dr O hr fX GZ kD wS dv oI am U g2 ux qo ar cZ gF aO qM ap BA sY fm ia aA bH
  refine c9 ?_;intro K HK;go_wp2_with fail
  refine HK.o _ _ ?_;clear HK K;refine c9 ?_;intro K HK;go_wp2_with fail
  refine HK.o _ _ ?_;clear HK K;obtain⟨b0,b1,b2,b3⟩:(W.setCell ⟨C.mb,13,none⟩ (vI (p+1))).cell? ⟨w.heap.size,0,none⟩=some (vP C.mb)/\(W.setCell ⟨C.mb,13,none⟩ (vI (p+1))).cell? ⟨C.mb,14,none⟩=some (vI lk)/\(W.setCell ⟨C.mb,13,none⟩ (vI (p+1))).cell? ⟨C.mb,15,none⟩=some (vI ln)/\(W.setCell ⟨C.mb,13,none⟩ (vI (p+1))).cell? ⟨C.mb,16,none⟩=some (.string lt):=by
   refine⟨(Yr _ _ _ _ (by intro e;have h:=congrArg Addr.block e;first|exact dL h|exact dL h.symm)).trans l0,(Yr _ _ _ _ Qr).trans Bb,(Yr _ _ _ _ Qr).trans Bc,(Yr _ _ _ _ Qr).trans uc⟩
  clear l0 De Bb Bc uc Ko;refine c9 ?_;intro K HK;go_wp2_with fail
  refine HK.o _ _ ?_;clear HK K b0 b1 b2 b3;rw[<-fA.o];refine c9 ?_;intro K HK;go_wp2_with fail
  refine HK.o _ _ ?_;clear HK K;obtain⟨f0,f1,f2,d3,nW,-⟩:=pg.o _ _ bc.o;have fV:=bc.o.tree (iN.o.kid (Yw)).1 (iN.o.kid (Yw)).2;have e0:=fV.1.c0;have e1:=fV.1.c1;clear fV;by_cases lC:code=2
  .obtain⟨u,l',pe⟩:=H2.o lC;have gr:vs[0]? =some u:=by rw[pe];rfl
   have iW:n=l'.length+1:=by rw[pP.o,pe];rfl
   obtain⟨gv,sT,fN⟩:=pE.o 0 u gr;subst sT;have hr2:r=if x0.kind=23/\x0.text=UB then Tr D u.s sc fr s1 else Tr D u.s s1.top ⟨false,s1.outer⟩ s1:=by
    rw[HR.o];unfold VL;rw[Y3 (by rw[lC];simp),pe];have ek:(a.nt C.N).kid 0=x0.nt C.N:=xX (by rw[iN.o.kids];rfl);rw[ek,Za,sw];rfl
   have bD:=lh hr2;have HG:=lh fN;have PO:0<n:=Qe
   obtain⟨I,KU⟩:=zX u.s
   have Dr:=lh KU;subst lC;clear pe gr iW hr2 fN KU;refine c9 ?_;intro K HK;go_wp2_with fail
   refine HK.o _ _ ?_;clear HK K;refine c9 ?_;intro K HK;by_cases gN:x0.kind=23/\x0.text=UB
   .obtain⟨oJ,be⟩:=gN;have df:r=Tr D I sc fr s1:=by rw[bD.o,Y5 ⟨oJ,be⟩,Dr.o]
    have EK:(x0.text.toList== [101,118,97,108])=true:=by rw[<-Zbv,be];simp
    rw[oJ]at e0;have o:=Calls.vres (Ze5 kR.o.2.1 kR.o.2.2 G7.o iU.o HD.o X.o.drew (d:=d+3399) eF.o o5.o Y.o.1 Y.o.2 I);rw[<-df]at o;have rR:=lh o
    have ro:=lh (show∀m M',MFr M1 M' W2 m->vC m w.heap.size 0 (vP C.mb)/\vC m (w.heap.size+1) 0 (.bool fr.strict)/\vC m (w.heap.size+1) 1 (vI fr.vars)/\vC m gv 2 (.string I)from
     λm M' f=>by
      obtain⟨g0,U,g2,-⟩:=pg.o _ _ (bc.o.trans f);have g3:=HG.o M' m f;rw[Dr.o];exact⟨g0,U,g2,by simpa using g3⟩)
    clear oJ df o be;go_wp2_with fail
    refine Z9 [(true,0),(true,1),(true,2),(true,3),(true,4),(true,5),(true,6),(false,7),(true,8),(true,9)] [10,11] (λW=>vC W w.heap.size 0 (vP C.mb)/\vC W (w.heap.size+1) 0 (.bool fr.strict)/\vC W (w.heap.size+1) 1 (vI fr.vars)/\vC W gv 2 (.string I)) Qh Qh (λ_ _ d _ _ h=>False.elim h) (ro.o _ _ (.drew (.refl _ _))) (λbw=>?_);refine pU ?_;exact Aaf
   .have df:r=Tr D I s1.top ⟨false,s1.outer⟩ s1:=by rw[bD.o,Y3 gN,Dr.o]
    have o:=Calls.vres (Ze5 (fr:=⟨false,s1.outer⟩) (sc:=s1.top) kR.o.2.1 kR.o.2.2 G7.o iU.o HD.o X.o.drew (d:=d+3399) eF.o (Zm5 o5.o) Y.o.1 Y.o.2 I);rw[<-df]at o;have yy:=(Zcz (d:=d+3399) (text:=I) HD.o eF.o (Zm5 o5.o) Y.o.1 Y.o.2)
    rw[<-df]at yy;have G9:=yy.2.1;have Ds:=lh (show r.1.top=s1.top/\r.1.outer=s1.outer from⟨G9.top,G9.outer⟩);have nf:=X.o.cell 12 (vI s1.top) Qq;have wU:=X.o.cell 11 (vI s1.outer) Qq;obtain⟨tp,KV⟩:=zX s1.top
    obtain⟨ou,yt⟩:=zX s1.outer
    rw[<-KV]at o nf Ds;rw[<-yt]at o wU Ds;have rR:=lh o
    have nH:=lh (show∀m M',MFr M1 M' W2 m->vC m w.heap.size 0 (vP C.mb)/\vC m gv 2 (.string I)from
     λm M' f=>by
      obtain⟨g0,-⟩:=pg.o _ _ (bc.o.trans f);have g3:=HG.o M' m f;rw[Dr.o];exact⟨g0,by simpa using g3⟩)
    have Ha:=lh (Yu nf wU);have cS:(x0.kind=23/\(x0.text.toList== [101,118,97,108])=false)\/((x0.kind==23)=false/\decide (x0.kind=23)=false):=by
     by_cases jx:x0.kind=23
     .refine .inl ⟨jx,?_⟩;cases hb:(x0.text.toList== [101,118,97,108])with
      |false=>rfl
      |true=>
        rw[<-Zbv,TZ]at hb;exact absurd ⟨jx,Zb1.1 hb⟩ gN
     .exact .inr ⟨by simpa using jx,by simpa using jx⟩
    clear gN df o yy G9 nf wU KV yt;rcases cS with⟨oJ,EK⟩|⟨cB,Oi⟩
    all_goals
     (try rw[oJ]at e0)
     (try clear oJ)
     go_wp2_with fail
     refine HK.o _ _ ?_;clear HK K;conv=>arg 2;whnf
     go_wp2_with fail
     refine Z9 [(true,0),(true,1),(true,2),(true,3),(true,4),(true,5),(true,6),(true,7),(true,8),(true,9),(true,10),(true,11),(true,12),(true,13),(false,14),(true,15),(true,16)] [17,18] (λW=>vC W w.heap.size 0 (vP C.mb)/\vC W gv 2 (.string I)/\vC W C.mb 12 (vI tp)/\vC W C.mb 11 (vI ou)) Qh Qh (λ_ _ d _ _ h=>False.elim h) (⟨(nH.o _ _ (.drew (.refl _ _))).1,(nH.o _ _ (.drew (.refl _ _))).2,Ha.o⟩) (λbw=>?_)
     refine iB ?_;intro K hK;refine rR.o.mono ?_;rintro e W3⟨M3,k3,n3,t3,fj,rfl,df⟩;have F3:=(MFr.drew (.refl M1 W2)).trans df.2.1;refine hK _ _ ⟨(nH.o _ _ F3).1,(nH.o _ _ F3).2,by rw[<-Ds.o.1];exact df.1.cell 12 (vI r.1.top) Qq,by rw[<-Ds.o.2];exact df.1.cell 11 (vI r.1.outer) Qq⟩ ?_;clear hK K;obtain⟨dP,bP,oR⟩:=ds df (bc.o.trans F3) (gS.o.fr F3);refine Xi ?_;intro q0 q1 q2 z0 z1 z2;clear df F3 rR;refine zD ?_;go_wp2_with fail
     show Go.Leaves _ _ _ _ _ _ _;exact Zi3 (r:=r) iN.o dP.o.1 bP.o (yK.o) pQ.o oR.o yL.o fe.o dP.o.2.2 rfl rfl
  .obtain⟨k,y8⟩:∃k:Nat,code=((k+3:Nat):Int):=⟨(code-3).toNat,by have :=BB.o;omega⟩
   have aY:k<M1.cl.length:=by have h1:=BB.o.2.1;have h2:=G8.o;rw[h2,Ym]at h1;omega
   obtain⟨x,hx⟩:∃x,M1.cl[k]?=some x:=⟨_,Y6 aY⟩
   obtain⟨gc,cap,BC,BD,uF,cX,Oj,r9,yx,KW,KX⟩:=X.o.clo hx;have pX:IntKind.i64.wrap (code-3)=(k:Int):=by
    rw[y8,show((k+3:Nat):Int)-3=(k:Int) by omega];unfold maxLen at uF;exact Yv _ Qe
   have dY:=Yd hx;have mg:=X.o.trees x dY;have Hb:s1.clos[k]?=some (x.clo C.N):=by rw[X.o.clos,Yg,hx];rfl
   have Dt:=eF.o.clo (x.clo C.N) (Yd Hb);have hr2:r=XN D (x.clo C.N) vs s1:=by
    rw[HR.o];unfold VL;rw[Y5 lC,show(code-3).toNat=k by omega,List.getD_eq_getElem?_getD,Hb];rfl
   have mZ:∃wA,VRow C M1 wA W2.drew v vs:=by
    obtain⟨wA,h⟩:=oH.o;exact⟨wA,h.fr (.drew (.refl _ _))⟩
   have o:=Calls.vres (Zk4 (x:=x) (v:=v) (vs:=vs) kR.o.1 G7.o iU.o HD.o X.o.drew (d:=d) eF.o o5.o.root Dt.1 Dt.2.1 Dt.2.2 mg.1.drew mg.2 mZ fD.o fP.o Y.o.1 Y.o.2);rw[<-hr2,Og.o]at o;obtain⟨cn,wh⟩:=zX M1.cl.length
   rw[<-wh]at r9 aY BD;simp only[ATree.ptr]at o;obtain⟨xb,g9⟩:=zX x.a.b
   obtain⟨xs,cC⟩:=zX x.scope
   obtain⟨xr,vh⟩:=zX x.strict
   rw[<-g9,<-cC,<-vh]at o;rw[<-g9]at yx;rw[<-cC]at KW;rw[<-vh]at KX;have rR:=lh o;have ro:=lh (show∀m M',MFr M1 M' W2 m->vC m w.heap.size 0 (vP C.mb)from λm M' f=>(pg.o _ _ (bc.o.trans f)).1);have Hc:(code==2)=false:=by simp;exact lC
   have Hd:decide (code=2)=false:=by simp;exact lC
   unfold maxLen at uF;clear y8 hx BC dY mg Hb Dt hr2 mZ o wh g9 cC vh Oj cX;refine c9 ?_;intro K HK;go_wp2_with fail
   clear lC Hc Hd;refine Z9 [(true,5),(true,6),(true,9),(true,0),(true,1),(true,2),(true,3),(false,4),(true,7),(false,8),(false,10),(true,11),(true,12)] [13,14] (λW=>vC W w.heap.size 0 (vP C.mb)) Qh Qh (λ_ _ d _ _ h=>False.elim h) f0 (λbw=>?_);refine pU ?_;have PP:W2.drew.cell? ⟨C.mb,9,none⟩=some (.slice (some ⟨gc,0,none⟩) cn cap):=r9;refine Ze (λK hK=>?_);go_simp
   refine hK _ _ (show _ from f0) ?_;clear hK K;refine pU ?_;have Ol:W2.drew.cell? ⟨gc,k*3,none⟩=some (vP xb):=yx;have Om:W2.drew.cell? ⟨gc,k*3+1,none⟩=some (vI xs):=KW;have On:W2.drew.cell? ⟨gc,k*3+2,none⟩=some (.bool xr):=KX;refine Ze (λK hK=>?_);go_simp
   refine hK _ _ (show _ from f0) ?_;clear hK K;exact Aaf
end
end Go.Proofs.YtkjdnecemhilpaaGreatDoor
namespace Go.Proofs
def Tryz.lays156_ren:Go.Shelf.Ren:=⟨fun|156=>142|165=>155|166=>156|169=>68|240=>105|241=>164|276=>128|277=>166|n=>n,fun|31=>37|9=>9|3=>3|4=>4|0=>0|20=>20|72=>157|76=>233|70=>155|37=>30|75=>32|127=>195|164=>109|5=>5|80=>159|n=>n,fun|n=>n⟩
def Tryz.lays156:Go.Proofs.Lays.n156 Tryz.prog Tryz.lays156_ren:={
 mixed:=by kernel_rfl
 f156:=Tryz.func142.trans (congrArg some (by kernel_rfl))
 f165:=Tryz.func155.trans (congrArg some (by kernel_rfl))
 f166:=Tryz.func156.trans (congrArg some (by kernel_rfl))
 f169:=Tryz.func68.trans (congrArg some (by kernel_rfl))
 f240:=Tryz.func105.trans (congrArg some (by kernel_rfl))
 f241:=Tryz.func164.trans (congrArg some (by kernel_rfl))
 f276:=Tryz.func128.trans (congrArg some (by kernel_rfl))
 f277:=Tryz.func166.trans (congrArg some (by kernel_rfl))
 t0:=Tryz.underlying0
 a0:=Tryz.isAgg0
 z0:=Tryz.sizeOf0
 v0:=Tryz.zeroValue0
 t3:=Tryz.underlying3
 a3:=Tryz.isAgg3
 z3:=Tryz.sizeOf3
 v3:=Tryz.zeroValue3
 t4:=Tryz.underlying4
 a4:=Tryz.isAgg4
 z4:=Tryz.sizeOf4
 v4:=Tryz.zeroValue4
 t9:=Tryz.underlying9
 a9:=Tryz.isAgg9
 z9:=Tryz.sizeOf9
 v9:=Tryz.zeroValue9
 t20:=Tryz.underlying20
 a20:=Tryz.isAgg20
 z20:=Tryz.sizeOf20
 v20:=Tryz.zeroValue20
 t31:=Tryz.underlying37
 a31:=Tryz.isAgg37
 z31:=Tryz.sizeOf37
 v31:=Tryz.zeroValue37
 t37:=Tryz.underlying30
 a37:=Tryz.isAgg30
 z37:=Tryz.sizeOf30
 v37:=Tryz.zeroValue30
 t70:=Tryz.underlying155
 a70:=Tryz.isAgg155
 z70:=Tryz.sizeOf155
 v70:=Tryz.zeroValue155
 t72:=Tryz.underlying157
 a72:=Tryz.isAgg157
 z72:=Tryz.sizeOf157
 v72:=Tryz.zeroValue157
 t75:=Tryz.underlying32
 a75:=Tryz.isAgg32
 z75:=Tryz.sizeOf32
 v75:=Tryz.zeroValue32
 t76:=Tryz.underlying233
 a76:=Tryz.isAgg233
 z76:=Tryz.sizeOf233
 v76:=Tryz.zeroValue233
 t127:=Tryz.underlying195
 a127:=Tryz.isAgg195
 z127:=Tryz.sizeOf195
 v127:=Tryz.zeroValue195
 t164:=Tryz.underlying109
 a164:=Tryz.isAgg109
 z164:=Tryz.sizeOf109
 v164:=Tryz.zeroValue109}
def Tryz.Builder_Extra_156:Builder.Extra Tryz.prog Tryz.lays156_ren:={
 sizeBuilder:=by kernel_rfl
 liesBuilder:=by kernel_rfl
 t5:=Tryz.underlying5
 a5:=Tryz.isAgg5
 z5:=Tryz.sizeOf5
 v5:=Tryz.zeroValue5
 infoByte:=by kernel_rfl
 cellsByte:=by kernel_rfl
 sizeByte:=by kernel_rfl
 neB5:=by decide}
open Go.RowKit in
theorem Tryz.strings_Join_none(a:Option Addr)(c:Nat)(g:ByteArray)(w:World) :
 Calls Tryz.prog 142 #[.slice a 0 c,.string g] w λe w'=>e=.returned (.string ⟨#[]⟩)/\w'=w:=Any.strings_Join_none Tryz.lays156 Tryz.Builder_Extra_156 a c g w
open Go.RowKit in
theorem Tryz.strings_Join(m o c:Nat)(g:List ByteArray)(p:ByteArray)(w:World)(u:∀(j:Nat) x,g[j]?=some x->w.cell? ⟨m,o+j,none⟩=some (.string x))(y:m<w.heap.size)(F:g.length<=140737488355328)(G:g.length<=c)(I:(Lib.join (g.map (·.data.toList)) p.data.toList).length<=140737488355328) :
 Calls Tryz.prog 142 #[.slice (some ⟨m,o,none⟩) g.length c,.string p] w λe w'=>e=.returned (.string ⟨(Lib.join (g.map (·.data.toList)) p.data.toList).toArray⟩)/\Below w.heap.size w w':=Any.strings_Join Tryz.lays156 Tryz.Builder_Extra_156 m o c g p w u y F G I
end Go.Proofs
namespace Go.Proofs.YtkjdnecemhilpaaGreatDoor
open Go Go.RowKit Go.Proofs.Tryz Tryz
section
variable {C:RCtx}{M M1:MRep}{w z W:kV}{s:MSt}{B:Nat}{a x0:ATree}{l:List ATree}{V:VF}{D:DF}{b sc:Int}{fr:Frm}{d:Nat}{A:Act}{K:Act->kV->Prop}{Q:Exit->Act->kV->Prop}{vs:List LVal}{v:Value}{RR:MSt×Except Er LVal}
theorem Zlc{n:Nat}:∀l:List (List UInt8),(∀x∈l,x.length<=n)->Lib.lens l<=n*l.length
 | [],_=>by simp[Lib.lens]
 |x::l,h=>by
   have g:=Zlc l λy hy=>h y SE;have m:=h x Qm;have e:Lib.lens (x::l)=x.length+Lib.lens l:=by simp[Lib.lens]
   rw[e,List.length_cons,Nat.mul_add];omega
def Zjc{w:kV}{B:Nat}{v:Value}{l:List kB}(h:Zx w B v l)(hn:l.length<=1500)(hs:∀x∈l,x.size<=8388608) :
 kC 142 #[v,.string ⟨#[32]⟩] w λe w'=>e=.returned (.string (Xu l))/\kW w w':=by
 rcases Z4 h with⟨hv,m⟩|⟨g,c,hv,o,O,p⟩
 .have e:=List.eq_nil_of_length_eq_zero m;subst e;rw[hv,show Xu []=⟨#[]⟩ by simp[Xu,Lib.join]];refine(Tryz.strings_Join_none none 0 _ w).mono ?_;rintro e w'⟨rfl,rfl⟩;exact⟨rfl,Y2 _ _⟩
 ·rw [hv];have u:(Lib.join (l.map (·.data.toList)) [32]).length≤140737488355328:=by
   cases l with
   |nil=>simp[Lib.join]
   |cons x r=>
     rw[List.map_cons,Lib.join_length];have F:=Zlc (n:=8388608) ((x::r).map (·.data.toList)) (λy I=>by
      obtain⟨z,m,rfl⟩:=List.mem_map.1 I;have:=hs z m;show z.data.toList.length<=8388608;rw[Array.length_toList];exact this)
     rw[List.map_cons,List.length_cons,Ym]at F;rw[List.length_cons]at hn;rw[show([32]:List UInt8).length=1 from rfl,Ym];omega
  refine(Tryz.strings_Join g 0 c l ⟨#[32]⟩ w (λj x hx=>?_) p Qe o u).mono ?_
  .rw[Nat.zero_add];exact h.cells (b:=g) QB hx
  .rintro e w'⟨rfl,J⟩;exact⟨rfl,J⟩
def Zoy(gm:K' C.w0)(hc:CaC C M w z a x0 l B fr)(hM:MAt C M1 W s)(hF:MFr M M1 z W)(hI:Inv s (d+1)){wA:kV}(ae:VRow C M1 wA W v vs)(dD:∀u∈vs,VQ s u)(hl:vs.length<=1500)
 (aS:RR=(({s with log:=s.log++[Xu (vs.map s.H.shown)]}:MSt),.ok LVal.zero))(lM:FrA 214 (Us C w a sc [(12,v)]) [] A)
 (hQ:∀c a d v w,Q (.panic c) (Act.put a d v) w->Q (.panic c) a w)(KY:∀y a' w',(results f133 a'.tmps).run Tryz.prog w'=.ok y w'->a'.defers=[]->bK C M w RR (.returned y) w'->Q .ret a' w') :
 (ef [1,1,1,1,1,1,1,0,0,1,1,1,0]).wp Tryz.prog Q A W:=by
 obtain⟨i0,hi,aC,bj,bJ⟩:=info_parts zq;obtain⟨pv,cv,gV,jP,iR,iL⟩:=ae.form;obtain⟨n,bH⟩:=zX vs.length
 rw[<-bH]at gV jP hl;have HN:=lh bH
 have pE:=lh (show∀(i:Nat) (u:LVal),vs[i]?=some u->∃g,pv=some ⟨g,0,none⟩/\∀m,kW W m->m.cell? ⟨g,i*3,none⟩=some (vI u.kind)/\m.cell? ⟨g,i*3+1,none⟩=some (vI u.n)/\m.cell? ⟨g,i*3+2,none⟩=some (.string u.s)from
  λi u hu=>by
   obtain⟨g,h1,h2,h3,a0,a1,a2⟩:=iL i u hu;exact⟨g,h1,λm f=>⟨(f.cell (p:=⟨g,i*3,none⟩) h2).trans a0,(f.cell (p:=⟨g,i*3+1,none⟩) h2).trans a1,(f.cell (p:=⟨g,i*3+2,none⟩) h2).trans a2⟩⟩)
 obtain⟨KZ,mM,X,HBZ,HF,HM,HI,wH,oV,fe,fE,Oo⟩:=tq (show∀m,kW W m->vC m w.heap.size 0 (vP C.mb)from λm f=>((hc.lm.fr hF).bel f).cell rfl) hc.lm hc.lr hc.below hF hM hI gm dD aS hQ KY;have xI:=lh (show∀x∈vs.map s.H.shown,x.size<=8388608 from λx hx=>by
  obtain⟨u,hu,rfl⟩:=List.mem_map.1 hx;exact Z8u s.H (dD u hu) hI.objs)
 unfold maxLen at iR;subst gV;unfold Us at lM;obtain⟨xt,rfl,e1,e2,e4,e7,e8,lN,-⟩:=Zer lM;rw[e1,e2,e4,e7,e8,lN];clear e1 e2 e4 e7 e8 lN lM;clear gm hc hM hF hI ae dD aS hQ KY iL bH;conv=>arg 2;whnf
 go_wp2_with fail
 go_loopw [18,86] (λv i wr=>∃k,k<=n/\i=(vI k)/\Hid (kW W wr)/\Hid (Zx wr W.heap.size v ((vs.take k).map s.H.shown))) (λ_ i _=>n-(intOf i).toNat)
 case atStart=>exact⟨0,Yh _,rfl,lh (Y2 _ _),lh (Zx.nil _ _)⟩
 case round=>
  obtain⟨k,hk,rfl,Y,HT⟩:=hrel;by_cases bY:k<n
  .obtain⟨u,hu⟩:∃u,vs[k]? =some u:=⟨_,Y6 QA⟩
   have j8:=oV.o u (Yd hu);obtain⟨gv,sT,fN⟩:=pE.o k u hu;subst sT;have nC:=λ(m:kV) (hW:kW W m)=>Zpt wH.o (HM.o.below hW) HI.o u j8;have dy:(vs.take (k+1)).map s.H.shown=(vs.take k).map s.H.shown++[s.H.shown u]:=by rw[List.take_add_one,hu];simp
   obtain⟨tx,be⟩:=zX (s.H.shown u)
   rw[<-be]at nC dy;obtain⟨uk,un,us⟩:=u;obtain⟨b0,b1,b2⟩:=fN wr Y.o;have Z:=Z2 wr (.cells #[vI uk,vI un,.string us] 71);obtain⟨bS,aP,yN⟩:=ds (show(wr.alloc (.cells #[vI uk,vI un,.string us] 71)).heap[wr.heap.size]?=some (.cells #[vI uk,vI un,.string us] 71 (0,0))from Yq wr _) Z dy;simp only[LVal.agg]at nC;have He:=lh nC;have K0:=lh (show((vs.take k).map s.H.shown).length=k by rw[Ym,List.length_take];have:=HN.o;omega);simp only at b0 b1 b2
   clear hu j8 fN nC dy be Z;go_wp2_with fail
   obtain⟨W2,gF⟩:=zX (wr.alloc (.cells #[vI uk,vI un,.string us] 71))
   have wX:=bS.o;have Z:=aP.o;rw[<-gF]at wX Z ⊢;obtain⟨O,uG⟩:=zX wr.heap.size
   rw[<-uG]at wX ⊢;have fc:=zT Y Z;have DR:=lh (HT.o.bel Z);have lJ:O<W2.heap.size:=(Y1.1 wX).1
   have HY:=lh (show∀m,kW W2 m->vC m w.heap.size 0 (vP C.mb)/\vC m O 0 (vI uk)/\vC m O 1 (vI un)/\vC m O 2 (.string us)from
    λm f=>⟨KZ.o m (fc.o.trans (f.mono fc.o.size)),by unfold vC;rw[f.cell (p:=⟨O,0,none⟩) lJ];simp[World.cell?,wX],by unfold vC;rw[f.cell (p:=⟨O,1,none⟩) lJ];simp[World.cell?,wX],by unfold vC;rw[f.cell (p:=⟨O,2,none⟩) lJ];simp[World.cell?,wX]⟩)
   clear wX Z bS aP lJ gF uG b0 b1 b2;refine Z9 [(true,0),(true,1),(true,2),(true,3),(true,4),(false,5),(false,6)] [7,8] (λW=>vC W w.heap.size 0 (vP C.mb)/\vC W O 0 (vI uk)/\vC W O 1 (vI un)/\vC W O 2 (.string us)) Qh Qh (λc a d v w h=>fE.o c a d v w h) (HY.o _ (Zd _)) (λbw=>?_);refine iB ?_;intro K hK;refine(He.o _ (fc.o.trans ((Zd _).mono fc.o.size))).mono ?_;rintro e F⟨rfl,J⟩
   have I:=(Zd W2).trans (J.mono (Y0 _));refine hK _ _ (HY.o _ I) ?_;clear hK K;have qN:=lh I;have mu:=lh (DR.o.bel I);have U:=zT fc I;clear J I;refine Ze (λK hK=>?_);go_simp
   refine hK _ _ (HY.o _ (qN.o.trans ((Z2 _ _).mono qN.o.size))) ?_;clear hK K;refine Z1 ?_;have dP:=lh (show F.ownsRow W.heap.size 9 1 u18 k (((vs.take k).map s.H.shown).map Value.string) by have h:=mu.o;unfold Zx at h;rwa[K0.o]at h)
   refine wpList_append_lies _ rfl (.tmp 90) (.tmp 96) 37 rfl W.heap.size 9 i0 (.string ByteArray.empty) 1 16 underlying37 hi aC bj bJ rfl Qg u18 k (((vs.take k).map s.H.shown).map Value.string) rfl (dP.o.alloc _) ⟨F.heap.size,0,none⟩ 1 1 [.string tx] rfl rfl (λj u hu=>cell_one_new F _ _ j u hu) Qp Qg Qj Qe (by have:=U.o.size;simp;omega) (F.heap.size+1) Qm ?_;intro g cap W4 aU aB bV Hf;have HG:=lh aB;have HW:=lh aU;clear aB aU bV Hf
   simp only[Act.put,zA,zB,zC];go_wp2_with fail
   go_roundw
   case rel=>
    refine⟨k+1,by omega,by go_num,lh ?_,lh ?_⟩;·exact(U.o.trans ((Z2 F _).mono U.o.size)).grown HG.o (by have:=U.o.size;simp;omega) λj hj=>(Y9 dP.o j hj).1
    .rw[yN.o];unfold Zx;rw[Yi,K0.o,Yl];exact HW.o
   case measure=>simp[intOf];omega
  .have aT:k=n:=by omega
   subst aT;have hT:=HT.o;rw[Ye QS]at hT;have xO:=λ(m:kV) (hW:kW wr m)=>Zjc (hT.bel hW) (by rw[Ym,<-HN.o];exact hl) xI.o;obtain⟨jt,zF⟩:=zX (Xu (vs.map s.H.shown))
   rw[<-zF]at xO;have Oq:=lh xO;have an:RR=(({s with log:=s.log++[jt]}:MSt),.ok LVal.zero):=by rw[fe.o,zF]
   have bD:=lh an;have wY:=HM.o.below Y.o;obtain⟨rv,sQ⟩:=zX (M1.row 0)
   have eT:=wY.rows 0 Qg;have hr2:=wY.rcell 0 Qg;rw[<-sQ]at eT hr2;obtain⟨xs,cC⟩:=zX (ow s M1.cl 0)
   obtain⟨ln,ia⟩:=zX s.log.length
   have Cz:ln<=1000000000:=by rw[ia];have:=HI.o.szL;have:=HI.o.steps;omega
   rw[<-cC,show ky s M1.cl 0=ln from ia.symm]at eT;simp only[oj,ov,rowO]at eT hr2;have lT:=wY.mbLt;have dV:rv.ownBlock≠some C.mb:=λe=>wY.rowNe (i:=0) Qg (by rw[<-sQ];exact e);have bz:=wY.fz 2;have l0:=KZ.o wr Y.o;have Or:w.heap.size<wr.heap.size:=by have h1:=X.o.lt;have h2:=HF.o.size;have h3:=Y.o.size;omega
   have Ot:rv.ownBlock≠some w.heap.size:=λe=>by
    have h1:=((mM.o.fr HF.o).bel Y.o).free;exact h1 (.inr ⟨0,by decide,by rw[<-sQ];exact e⟩)
   obtain⟨oP,K5,oQ,bR,Hg,yT⟩:=gw eT sQ cC ia wY (HF.o.trans (.of_below Y.o));clear hT xO zF an wY eT sQ cC ia;go_wp2_with fail
   refine Z9 [(true,0),(true,1),(true,2),(true,3),(true,4),(true,5),(true,6),(false,7),(false,8),(false,9)] [10,11,12,13] (λW=>vC W w.heap.size 0 (vP C.mb)/\vC W C.mb 2 rv) Qh Qh (λc a d v w h=>fE.o c a d v w h) (⟨l0,hr2⟩) (λbw=>?_);refine iB ?_;intro K hK;refine(Oq.o _ (Zd _)).mono ?_;rintro e F⟨rfl,J⟩;have I:=(Zd wr).trans (J.mono (Y0 _));have e0:=(I.cell (p:=⟨w.heap.size,0,none⟩) Or).trans l0
   have e2:=(I.cell (p:=⟨C.mb,2,none⟩) lT).trans hr2;refine hK _ _ ⟨e0,e2⟩ ?_;clear hK K;have cE:=I.size;have df:=Z3 oP.o λg hg=>I.block g (Y9 oP.o g hg).2;have dP:=lh df;have qN:=lh I;have Ou:F.frozen? ⟨C.mb,2,none⟩=false:=(Yn (I.block _ lT)).trans bz;clear J I df;refine Ze (λK hK=>?_);go_simp
   have BE:w.heap.size<F.heap.size:=Qe
   have wZ:C.mb<F.heap.size:=Qe
   refine hK _ _ ⟨(Zb BE).trans e0,(Zb wZ).trans e2⟩ ?_;clear hK K;refine Ze (λK hK=>?_);refine step_append_lies _ Qt (.tmp 104) (.tmp 107) 37 Qt 0 9 i0 (.string ByteArray.empty) 1 16 underlying37 hi aC bj bJ rfl Qg rv ln xs Qt (dP.o.alloc _) ⟨F.heap.size,0,none⟩ 1 1 [.string jt] Qt rfl (λj u hu=>cell_one_new F _ _ j u hu) Qp Qg Qj Qe Qe (F.heap.size+1) Qm ?_;intro gg cap W5 lO gH qC BF
   have xa:∀b o,b<F.heap.size->rv.ownBlock≠some b->W5.cell? ⟨b,o,none⟩=F.cell? ⟨b,o,none⟩:=λb o ai aw=>(gH.cell_far ⟨b,o,none⟩ Qi (λe=>aw e.symm)).trans (Zb ai);have PS:W5.frozen? ⟨C.mb,2,none⟩=false:=(gH.frozen_far ⟨C.mb,2,none⟩ Qi (λe=>dV e.symm)).trans ((TT wZ).trans Ou);have e5:=(xa _ 2 wZ dV).trans e2;refine hK _ _ ⟨(xa _ 0 BE Ot).trans e0,e5⟩ ?_;clear hK K;simp only[Act.put,zA,zB,zC];obtain⟨HG,HW,i8,kK⟩:=gp gH lO qC BF
   clear gH lO qC BF xa;refine Z1 ?_;have hg:(M1.row 0).ownBlock=some gg\/wr.heap.size<=gg:=by
    rw[<-K5.o];exact WC
   obtain⟨s3,ng⟩:∃s3:MSt,s3={s with log:=s.log++[jt]}:=⟨_,rfl⟩
   have ae:W5.ownsRow 0 (oj 0) (ov 0) (.slice (some ⟨gg,0,none⟩) (ln+1) cap) (ky s3 M1.cl 0) (ow s3 M1.cl 0):=by
    have hw:=HW.o;rw[oQ.o]at hw;rw[ng];show W5.ownsRow 0 9 1 _ (s.log++[jt]).length ((s.log++[jt]).map Value.string);rw[Yi,Yl,<-bR.o];exact hw
   obtain⟨M2,aO,ap⟩:=Hg.o.push (s':=s3) (cl':=M1.cl) Qg (qN.o.trans ((Z2 F (.cells #[.string jt] 9)).mono qN.o.size)) (K5.o▸HG.o) hg kK.o ae
    (fun j hj aH => by rw [ng]; match j, hj with
     |0,_=>exact absurd rfl aH
     |1,_=>exact⟨rfl,rfl⟩
     |2,_=>exact⟨rfl,rfl⟩
     |3,_=>exact⟨rfl,rfl⟩) (by rw[ng]) (by rw[ng];rfl) (by rw[ng];exact Hg.o.clos) Hg.o.trees
   have aO:MAt C M2 (W5.setCell ⟨C.mb,2,none⟩ (.slice (some ⟨gg,0,none⟩) (ln+1) cap)) s3:=aO;have ap:MFr M1 M2 wr (W5.setCell ⟨C.mb,2,none⟩ (.slice (some ⟨gg,0,none⟩) (ln+1) cap)):=ap;obtain⟨W6,Du⟩:=zX (W5.setCell ⟨C.mb,2,none⟩ (.slice (some ⟨gg,0,none⟩) (ln+1) cap))
   rw[<-Du]at aO ap;obtain⟨tR,AS,mm⟩:=ds Du aO (yT.o.trans ap);have jH:RR=(s3,.ok LVal.zero):=by rw[bD.o,ng]
   have Ov:=lh jH;obtain⟨q0,q1,q2,z0,z1,z2⟩:=(X.o.fr mm.o).six;rw[Du]at q0 q1 q2 z0 z1 z2;clear aO ap Du jH ng ae hg;go_wp2_with fail
   simp only[<-tR.o]at q0 q1 q2 ⊢;refine Oo.o (.tuple #[.agg #[vI 0,vI 0,.string ⟨#[]⟩],.nilIface]) _ _ ?_ rfl ?_;·exact UL
   .rw[Ov.o];exact bK.fine X.o HBZ.o AS.o mm.o
end
section
variable {C:RCtx}{M M1:MRep}{w z W:kV}{s:MSt}{B:Nat}{a x0:ATree}{l:List ATree}{V:VF}{D:DF}{b sc:Int}{fr:Frm}{d:Nat}{A:Act}{K:Act->kV->Prop}{vs:List LVal}{v:Value}{code:Int}{RR:MSt×Except Er LVal}
theorem AaR:ef [1,1,1,1,1,1,1,0]=Code.block 2 (ef [1,1,1,1,1,1,1,0,0]):=by kernel_rfl
theorem Abk:ef [1,1,1,1,1,1,1,0,0]=Code.seq (ef [1,1,1,1,1,1,1,0,0,0]) (Code.cond (.tmp 76) (ef [1,1,1,1,1,1,1,0,0,1,0]) (ef [1,1,1,1,1,1,1,0,0,1,1])):=by kernel_rfl
theorem AbP:ef [1,1,1,1,1,1,1,0,0,1,1]=Code.seq (ef [1,1,1,1,1,1,1,0,0,1,1,0]) (Code.cond (.tmp 81) (ef [1,1,1,1,1,1,1,0,0,1,1,1,0]) (ef [1,1,1,1,1,1,1,0,0,1,1,1,1])):=by kernel_rfl
theorem Zpy:ef []=Code.seq (ef [0]) (Code.seq (ef [1,0]) (Code.seq (ef [1,1,0]) (Code.seq (ef [1,1,1,0]) (Code.seq (ef [1,1,1,1,0]) (Code.seq (ef [1,1,1,1,1,0]) (Code.seq (ef [1,1,1,1,1,1,0]) (Code.seq (ef [1,1,1,1,1,1,1,0]) (ef [1,1,1,1,1,1,1,1])))))))):=by kernel_rfl
def Zem{D:DF}{n:NT}:Xa D n sc fr code vs s =
 if code=0 then(s,.error (.thr (.say xn)))
 else if code=1 then(({s with log:=s.log++[Xu (vs.map s.H.shown)]}:MSt),.ok LVal.zero)
 else if code=2/\vs=[]then(s,.ok LVal.zero)
 else if code=2/\(vs.headD LVal.zero).kind≠4 then(s,.ok (vs.headD LVal.zero))
 else if s.calls=40 then(s,.error (.thr (.say Ul)))
 else Wy s (VL D n sc fr code vs {s with calls:=s.calls+1}):=by
 unfold Xa;split;·rfl
 split;·rfl
 split;·rfl
 split;·rfl
 split<;>rfl
def Zqm(X:K' C.w0)(hc:CaC C M w z a x0 l B fr)(I:MAt C M1 W s)(J:MFr M M1 z W)(hI:Inv s (d+1))(ae:∃wA,VRow C M1 wA W v vs)(Y:∀u∈vs,VQ s u)(hl:vs.length<=1500)
 (g:RR=Xa D (a.nt C.N) sc fr code vs s)(lM:FrA 214 (Us C w a sc [(12,v),(17,vI code)]) [] A)
 (HK:∀A',FrA 214 (Us C w a sc [(12,v),(17,vI code)]) [] A'->code≠0->code≠1->(code=2->∃u l',vs=u::l')->(RR=if s.calls=40 then(s,.error (.thr (.say Ul)))else Wy s (VL D (a.nt C.N) sc fr code vs {s with calls:=s.calls+1}))->K A' W) :
 (ef [1,1,1,1,1,1,1,0]).wp Tryz.prog (Exit.then K (Znz Tryz.prog f133 (λe w'=>bK C M w RR e w'))) A W:=by
 rw[Zem]at g;obtain⟨wA,O⟩:=ae;obtain⟨pv,cv,Z,jP,iR,iL⟩:=O.form;obtain⟨n,o⟩:=zX vs.length
 have U:v=.slice pv n cv:=by rw[o];exact Z
 have nh:VRow C M1 wA W (.slice pv n cv) vs:=U▸O;rw[<-o]at jP hl;obtain⟨HLR,HBZ,HM,HF,m,pP⟩:=gw hc.lr hc.below I J HK o;rw[U]at lM m;unfold Us at lM;obtain⟨xt,rfl,e1,e2,e4,e7,e8,lN,Bz,-⟩:=Zer lM;rw[e1,e2,e4,e7,e8,lN,Bz];clear e1 e2 e4 e7 e8 lN Bz lM;by_cases p:code=0
 .rw[Y5 p]at g;have fe:=lh g;have kt:=LW I xn;simp only[xn]at kt;have uY:=lh kt;subst p;clear X hc I J hI O Y hl g HK Z U kt iL o nh m;conv=>arg 2;whnf
  go_wp2_with fail
  refine uY.o.mono ?_;rintro e w5⟨o7,rfl,rp,eO⟩;have xK:=lh (show ax C M1 w5 (.thr (.say xn)) o7 from rp);exact Aaz
 rw[Y3 p]at g;by_cases F:code=1
 .rw[Y5 F]at g;have fe:=lh g;have CJ:=lh (λ(A':Act) (Q:Exit->Act->kV->Prop)=>Zoy (A:=A') (Q:=Q) (wA:=wA) (sc:=sc) X hc I J hI nh Y (by rw[<-o];exact hl) g);subst F;clear X hc I J hI O Y hl g HK Z U iL o nh m p;rw[AaR];refine wp_block ?_;rw[Abk];refine c9 ?_;intro K HK;go_wp2;refine HK.o _ _ ?_;clear HK K;refine wp_cond_false Qt ?_;rw[AbP];refine c9 ?_;intro K HK;go_wp2;refine HK.o _ _ ?_;clear HK;refine wp_cond_true Qt ?_
  refine CJ.o _ _ ⟨rfl,⟨rfl,rfl,rfl,rfl,rfl,rfl,trivial⟩,rfl⟩ (λ_ _ d _ _ h=>False.elim h) (λy a' w' g1 g2 g3=>?_);show Go.Leaves _ _ _ _ a'.defers .returning w';rw[g2];exact⟨y,g1,g3⟩
 rw[Y3 F]at g;have ik:=hI;by_cases h2:code=2
 .subst h2;rcases rG:vs with _|⟨u,l'⟩
  .rw[rG]at g;have an:RR=(s,.ok LVal.zero):=by rw[g,Y5 ⟨rfl,rfl⟩]
   have fe:=lh an;have hn0:n=0:=by rw[o,rG];rfl
   subst hn0;obtain⟨q0,q1,q2,z0,z1,z2⟩:=(HLR.o.fr HF.o).six;clear X hc I J hI O Y hl g HK Z U iL o nh m p F an ik rG;conv=>arg 2;whnf
   go_wp2_with fail
   refine⟨.tuple #[.agg #[vI 0,vI 0,.string ⟨#[]⟩],.nilIface],?_,?_⟩;·exact UL
   .rw[fe.o];exact bK.fine HLR.o HBZ.o HM.o HF.o
  .have iW:0<n:=by rw[o,rG];simp
   have cF:(n==0)=false:=Qi
   have PT:decide (n=0)=false:=Qi
   rw[rG]at g;rw[Y3 (λh=>by cases h.2)]at g;simp only[List.headD_cons]at g;obtain⟨gv,sT,-,-,a0,a1,a2⟩:=iL 0 u (by rw[rG];rfl);subst sT;rw[Nat.zero_mul]at a0 a1 a2;simp only[Nat.zero_add]at a1 a2;by_cases gK:u.kind=4
   .rw[Y3 (λh=>h.2 gK)]at g;have fe:=lh g;rw[gK]at a0;have K7:=lh rG;clear X hc I J hI O Y hl g HK Z U iL o nh p F ik rG;conv=>arg 2;whnf
    go_wp2_with fail
    exact m.o _ ⟨rfl,⟨rfl,rfl,rfl,rfl,rfl,rfl,rfl,trivial⟩,rfl⟩ Qg Qg (λ_=>⟨u,l',K7.o⟩) (by rw[fe.o,K7.o])
   .have an:RR=(s,.ok u):=by rw[g,Y5 ⟨by trivial,gK⟩]
    have fe:=lh an;have s6:(u.kind==4)=false:=by simp;exact gK
    have K8:decide (u.kind=4)=false:=by simp;exact gK
    obtain⟨uk,un,ut⟩:=u;simp only at a0 a1 a2 gK s6 K8;obtain⟨q0,q1,q2,z0,z1,z2⟩:=(HLR.o.fr HF.o).six;clear X hc I J hI O Y hl g HK Z U iL o nh m p F ik rG an;conv=>arg 2;whnf
    go_wp2_with fail
    refine⟨.tuple #[.agg #[vI uk,vI un,.string ut],.nilIface],?_,?_⟩;·exact UL
    .rw[fe.o];exact bK.fine HLR.o HBZ.o HM.o HF.o
 rw[Y3 (λh=>h2 h.1),Y3 (λh=>h2 h.1)]at g;have fe:=lh g;have d0:(code==0)=false:=by simp;exact p
 have Mj:decide (code=0)=false:=by simp;exact p
 have d1:(code==1)=false:=by simp;exact F
 have Io:decide (code=1)=false:=by simp;exact F
 have d2:(code==2)=false:=by simp;exact h2
 have Cu:decide (code=2)=false:=by simp;exact h2
 obtain⟨jR,tW,AB⟩:=ds p F h2;clear X hc I J hI O Y hl g HK Z U iL o nh p F h2 ik;conv=>arg 2;whnf
 go_wp2_with fail
 exact m.o _ ⟨rfl,⟨rfl,rfl,rfl,rfl,rfl,rfl,rfl,trivial⟩,rfl⟩ jR.o tW.o (λh=>absurd h AB.o) fe.o
def Znx(gm:K' C.w0)(hW:Words C.w0)(hL:EO C.w0 C.w0.heap.size)(hC:C.Ok)(co:zd C V b)(hV:VH V b)(cV:FR C D b)(hD:DH D b)(h:MAt C M w s)(hI:Inv s (d+17000))(hA:FAt s sc fr)(hb:b<=s.steps)(hs:s.steps<=20000)(ha:TreeAt w B a)(hf:a.free M)(cr:a.kids=x0::l)
 (w0:(x0.nt C.N).wf .v)(m0:(x0.nt C.N).tree.many<=1500)(hl:l.length<=1500)(fm:∀k∈l,(k.nt C.N).wf .v/\(k.nt C.N).tree.many<=1500) :
 kC 133 #[vP C.mb,a.ptr,vI sc,.agg #[.bool fr.strict,vI fr.vars]] w λe w'=>bK C M w (WV V D (a.nt C.N) sc fr s) e w':=by
 obtain⟨RR,p⟩:=zX (WV V D (a.nt C.N) sc fr s)
 rw[<-p];unfold WV at p;have e0:(a.nt C.N).kid 0=x0.nt C.N:=xX Q8;have Z:(a.nt C.N).kids.tail=l.map (ATree.nt C.N):=by rw[Zw,zI,cr];rfl
 rw[e0,Z]at p;obtain⟨z,hz,F,lm,lf,lr⟩:=Zx4 h fr;have aE:=h.below F;have hc:CaC C M w z a x0 l B fr:=⟨hC,h.old.size,F,lm,lf,lr,ha.bel F,hf,cr⟩
 obtain⟨kg,kc,cB,aT,hk⟩:=hc.two;obtain⟨q,hq⟩:=zX l.length
 rw[<-hq]at cB hk;have bG:=lh (co.from aE hI hA hb hs w0 m0 (hc.kid (Yw)).1 (hc.kid (Yw)).2);have am:=(hV (x0.nt C.N) sc fr s _ w0 m0 hI hA hb hs).1;obtain⟨r1,bB⟩:=zX (V (x0.nt C.N) sc fr s)
 unfold iC at p;rw[<-bB]at bG am p;obtain⟨iN,bL,HR⟩:=ds hc am p;have HS:=lh (show∀g M',MFr M M' z g->vC g w.heap.size 0 (vP C.mb)/\vC g (w.heap.size+1) 0 (.bool fr.strict)/\vC g (w.heap.size+1) 1 (vI fr.vars)/\vC g a.b 3 (.slice (some ⟨kg,0,none⟩) (q+1) kc)/\vC g kg 0 (vP x0.b)from λg M' f=>by
  obtain⟨g0,g1,g2,g3,g4,-⟩:=hk M' g f;exact⟨g0,g1,g2,g3,g4⟩)
 obtain⟨HLR,HBZ,HM,HO,HE,gY,HB,oV,HV,iU,HD,kL⟩:=tq lr F aE h.old.size F.size hA (Yu hb hs) co hV cV hD fm;obtain⟨zH,kR,HZ,PU⟩:=gp hl (Yu gm (Yu hW hL)) hz lm;have hn0:0<q+1:=Qe
 clear gm hW hL hC co hV cV hD h hI hA hb hs ha hf cr w0 m0 hl fm e0 Z hz F lm lf lr aE hc hk hq am bB p;unfold ATree.ptr;refine Zbi (c:=ef []) func133 Zs2 ?_;simp only[ntmps133,List.size_toArray,List.length_cons,List.length_nil,Nat.reduceAdd,Nat.reduceSub,Array.replicate_succ,Array.replicate_zero,List.push_toArray,List.append_toArray,List.nil_append,List.cons_append];rw[Zpy];refine c9 ?_;intro K HK;go_wp2;rw[<-HZ.o];refine HK.o _ _ ?_;clear HK K;refine c9 ?_;intro K HK
 refine Z2d (.take 0 (.take 1 (.take 2 (.take 3 (.take 4 (.take 5 (.take 6 (.take 7 (.take 8 (.two 9 (.take 10 (.take 11 (.take 12 (.go 13 (.go 14 (.go 15 (.nil))))))) 13 (.go 9 (.take 10 (.take 11 (.take 12 (.go 14 (.go 15 (.nil))))))))))))))))) 14 (λW=>vC W w.heap.size 0 (vP C.mb)/\vC W (w.heap.size+1) 0 (.bool fr.strict)/\vC W (w.heap.size+1) 1 (vI fr.vars)/\vC W a.b 3 (.slice (some ⟨kg,0,none⟩) (q+1) kc)/\vC W kg 0 (vP x0.b)) Qh Qh (λ_ _ d _ _ h=>False.elim h) (HS.o _ _ (MFr.drew (.refl _ _))) ?_
 refine ra ?_;refine Zu ?_;apply Te (H:=sp C w M z r1);·exact Tm HS bG HE.o HO.o
 .exact OS HS bG HM HE.o HO.o
 intro W1 p1 M1 I J t1 bQ u;refine HK.o _ _ ?_;clear HK K;obtain⟨bA,bX,jY⟩:=ds u.1.2.1 u.1.1 u.2;obtain⟨q0,q1,q2,z0,z1,z2⟩:=(HLR.o.fr bA.o).six;obtain⟨s1,iq⟩:=r1;cases iq with
 |error O=>
   have he:ax C M1 W1 O bQ:=u.1.2.2;have y:RR=(s1,.error O):=HR.o;have fe:=lh y;obtain⟨T1,P1,rfl,hP⟩:=he.ne;have eg:=lh he;clear u he HR y;refine pT ?_;intro K HK;clear HK;conv=>arg 2;whnf
   go_wp2_with fail
   refine⟨.tuple #[.agg #[vI 0,vI 0,.string ⟨#[]⟩],.iface T1 (.pointer P1)],?_,?_⟩;·exact UL
   .rw[fe.o];exact bK.err HLR.o HBZ.o bX.o bA.o eg.o
 |ok v1=>
   obtain⟨rfl,rfl⟩:v1=⟨I,J,t1⟩/\bQ=.nilIface:=u.1.2.2;have dB:RR=iC (Uq V sc fr (l.map (ATree.nt C.N))) (λargs s=>Xa D (a.nt C.N) sc fr (codeOf s ⟨I,J,t1⟩) args s) s1:=HR.o;obtain⟨i1,O,c1,eo,i2⟩:=bL.o;obtain⟨eF,lq,ed,fY⟩:=gp i1 O (Yu (show b<=s1.steps from Int.le_trans HB.o.1 O.steps) i2) dB;clear HR u dB i1 O c1 eo i2 q0 q1 q2 z0 z1 z2;refine c9 ?_;intro K HK;go_wp2;refine HK.o _ _ ?_;clear HK K;refine c9 ?_;intro K HK;go_wp2;refine HK.o _ _ ?_;clear HK K;refine pT ?_;intro K HK
   refine Zse (d:=d+17000) oV.o HV.o iN.o bX.o bA.o eF.o (gY.o.ext lq.o) ed.o.1 ed.o.2 kL.o zH.o fY.o (v10:=(vP p1)) ⟨rfl,⟨rfl,rfl,rfl,rfl,rfl,rfl,rfl,trivial⟩,rfl⟩ (λA2 W2 M2 s2 v2 ox BG aO ap nT BH xx Hh ex BJ BK y=>?_);refine HK.o _ _ ?_;clear HK K;obtain⟨gS,bc,bU,oN,o6,aP⟩:=gw (jY.o.fr ap) (bA.o.trans ap) aO xx ((gY.o.ext lq.o).ext Hh) (Yu (show b<=s2.steps from Int.le_trans ed.o.1 Hh.steps) ex)
   have Hi:=lh (show∃wA,VRow C M2 wA W2 v2 ox from⟨_,nT⟩);have BL:=lh BK;have km:=lh (show ox.length<=1500 by rw[BH];exact zH.o);obtain⟨code,aD⟩:=zX (codeOf s2 ⟨I,J,t1⟩)
   have y:RR=Xa D (a.nt C.N) sc fr code ox s2:=by rw[y,aD]
   have bD:=lh y;have BB:=lh (show 0<=code/\code<3+s2.clos.length by
    rw[aD];unfold codeOf;split;·exact Zl0 xx
    .omega)
   have U:=aD;unfold codeOf at U;have gV:=(⟨_,nT⟩:∃wA,VRow C M2 wA W2 v2 ox)
   obtain⟨pv,nv,Y,rfl⟩:∃pv nv Y,v2=.slice pv nv Y:=by
    obtain⟨pv,Y,h,-⟩:=nT.form;exact⟨pv,_,Y,h⟩
   unfold Us at BG;obtain⟨xt,rfl,Z,e2,e4,e7,e8,gU,lN,-⟩:=Zer BG;rw[Z,e2,e4,e7,e8,gU,lN];clear Z e2 e4 e7 e8 gU lN BG aO ap nT BH xx Hh ex BJ BK y gV aD;refine c9 ?_;intro K HK;go_wp2;refine HK.o _ _ ?_;clear HK K;obtain⟨b0,b1,b2,-,-,-⟩:=gS.o.six
   have uH:=lh (show∀A3 W3,FrA 214 (Us C w a sc [(12,.slice pv nv Y),(17,vI code)]) [] A3->kW W2 W3->(Code.seq (ef [1,1,1,1,1,1,1,0]) (ef [1,1,1,1,1,1,1,1])).wp Tryz.prog (Znz Tryz.prog f133 (λe w'=>bK C M w RR e w')) A3 W3 from λA3 W3 ur o=>by
    refine wp_seq_k (λK hK=>?_);have BM:∃wA,VRow C M2 wA W3 (.slice pv nv Y) ox:=by
     obtain⟨wA,h⟩:=Hi.o;exact⟨wA,h.fr (.of_below o)⟩
    refine Zqm (D:=D) (d:=d+16999) kR.o.1 iN.o (bU.o.below o) (bc.o.trans (.of_below o)) oN.o BM BL.o km.o bD.o ur (λA4 uu h0 h1 h2 eM=>?_);refine hK _ _ ?_;exact Zul (d:=d) kR.o.1 kR.o.2.1 kR.o.2.2 iU.o HD.o iN.o (bU.o.below o) (bc.o.trans (.of_below o)) oN.o o6.o aP.o.1 aP.o.2 BM BL.o km.o ⟨BB.o.1,BB.o.2,h0,h1⟩ h2 eM uu)
   refine c9 ?_;intro K HK;by_cases s6:I=5
   .subst s6;rw[Y5 rfl]at U;have Hj:=Zxu bU.o.drew J;rw[<-U]at Hj;have qA:=lh Hj
    have Dn:=lh (show∀g M',MFr M2 M' W2 g->vC g w.heap.size 0 (vP C.mb)/\vC g p1 1 (vI J)from
     λg M' f=>⟨(HS.o g M' (bc.o.trans f)).1,(gS.o.fr f).cell rfl⟩)
    clear Hj U;go_wp2_with fail
    refine Z9 [(true,0),(true,1),(true,2),(true,3),(true,4)] [5,6] (λW=>vC W w.heap.size 0 (vP C.mb)/\vC W p1 1 (vI J)) Qh Qh (λ_ _ d _ _ h=>False.elim h) (Dn.o _ _ (.drew (.refl _ _))) (λbw=>?_);refine pU ?_;refine Z1 ?_;go_wp2_with fail
    refine qA.o.mono ?_;rintro e W5⟨rfl,K9⟩;rw[K9];clear K9 W5;go_wp2_with fail
    refine HK.o _ _ ?_;exact uH.o _ _ ⟨rfl,⟨rfl,rfl,rfl,rfl,rfl,rfl,rfl,trivial⟩,rfl⟩ (Zd _)
   .rw[Y3 s6]at U;subst U;have K8:(I==5)=false:=by simp;exact s6
    have PV:decide (I=5)=false:=by simp;exact s6
    go_wp2_with fail
    refine HK.o _ _ ?_;exact uH.o _ _ ⟨rfl,⟨rfl,rfl,rfl,rfl,rfl,rfl,rfl,trivial⟩,rfl⟩ (Y2 _ _)
end
section
variable {C:RCtx}{M M':MRep}{w w':kV}{s s':MSt}{B:Nat}{a:ATree}{V:VF}{D:DF}{b:Int}{sc:Int}{fr:Frm}{d:Nat}
def Zto(hC:C.Ok)(h:MAt C M w s)(hI:Inv s d)(ha:TreeAt w B a)(hf:a.free M)(hs:s.steps=20000){g:Nat} :
 kC 62 #[vP C.mb,a.ptr,vI sc,.agg #[.bool fr.strict,vI fr.vars]] w λe w'=>jm C M w (D7 V D g (a.nt C.N) sc fr s) e w':=by
 refine OW ?_;intro s1 aL bT hst jB aZ dh di dj z0 aC;rw[<-aC]at aZ dh di dj;refine rs ?_;intro cw f5 y5 aE aX;rw[<-aL]at aE;refine rH ?_;intro z hz;rw[<-hz]at aE aX;refine MJ ?_;intro eJ aJ bz lf lr ln g5 c0;rw[aC]at f5 y5;rw[hz,aC]at g5 c0;have m:D7 V D g (a.nt C.N) sc fr s=(s1,.error .stop):=by
  unfold D7 zJ;rw[Y5 Qe,aL];rfl
 rw[m];refine Zyc ?_;intro HZ cX dv HLR HFz bR Cj HM m0 m1 m2 q0 q1 q2 z0 z1 z2;clear hz aC aZ cw aE aX eJ aJ bz dh di dj lf lr ln ha hf h hI aL m hs c0;unfold ATree.ptr;go_enter func62,ntmps62
 go_wp2_with fail
 rw[<-HZ.o];clear f5 y5 g5;unfold ql at cX;refine o4 [(true,0),(true,1),(true,2),(false,3)] [4] (λW=>vC W (w.heap.size+1+1) 0 (vI 0)/\vC W (w.heap.size+1+1) 1 (vI 0)/\vC W (w.heap.size+1+1) 2 (.string ⟨#[]⟩)/\W.cell? ⟨0,0,none⟩=some (.iface 241 (.pointer (some C.eb)))) ⟨m0,m1,m2,cX⟩ (λu=>?_);refine iB ?_;intro K hK;refine Zz3 ?_;intro bo
 have o:=jm.err' (b:=false) (k:=0) (n:=0) (t:=⟨#[]⟩) HLR.o HFz.o HM.o.drew (.drew (.refl _ _)) (show ax C M z.drew .stop (ql C.eb)from rfl);refine hK _ _ ⟨bo.cell rfl,bo.cell rfl,bo.cell rfl,?_⟩ ?_;·exact Abe
 clear hK K bo;have p:=lh o;clear o;refine Z1 ?_;go_wp2;refine Yp (v:=.tuple #[.bool false,.agg #[vI 0,vI 0,.string ⟨#[]⟩],.iface 241 (.pointer (some C.eb))]) ?_ rfl ?_;·exact xY
 .exact p.o
def AaT(co:zd C V b)(hV:VH V b)(h:MAt C M w s)(hI:Inv s 0)(Y:d+1<=20000)(hA:FAt s sc fr)(hb:b<=s.steps+1)(hs:s.steps<20000)(ha:TreeAt w B a)(hf:a.free M){x y:ATree}(cr:a.kids=[x,y])(wx:(x.nt C.N).wf .v)(wy:(y.nt C.N).wf .v)(mx:(x.nt C.N).tree.many<=1500)(my:(y.nt C.N).tree.many<=1500)(hk:a.kind=25\/a.kind=26) :
 kC 95 #[vP C.mb,a.ptr,vI sc,.agg #[.bool fr.strict,vI fr.vars]] w λe w'=>bK C M w (zJ (zz V D (a.nt C.N) sc fr) s) e w':=by
 refine OW ?_;intro s1 aL bT hst jB aZ dh di dj z0 aC;rw[<-aC]at aZ dh di dj;refine rs ?_;intro cw f5 y5 aE aX;rw[<-aL]at aE;refine rH ?_;intro z hz;rw[<-hz]at aE aX;refine MJ ?_;intro eJ aJ bz lf lr ln g5 c0;rw[aC]at f5 y5;rw[hz,aC]at g5 c0;refine SU ?_;intro hR R aS;rw[<-aS];rw[<-aS]at hR;clear aS;refine S7 ?_;intro dv HZ HLR bR dC HFz HM fB dW HO HE;refine Ux ?_;intro fM dL ex;have ai:b<=s1.steps:=Qe
 have ja:s1.steps<=20000:=Qe
 unfold zz at hR;have g:¬a.kind=17/\¬a.kind=18/\¬(a.kind=19\/a.kind=20)/\¬a.kind=21/\¬a.kind=22/\¬a.kind=23/\¬a.kind=24:=Qe
 rw[Za,Y3 g.1,Y3 g.2.1,Y3 g.2.2.1,Y3 g.2.2.2.1,Y3 g.2.2.2.2.1,Y3 g.2.2.2.2.2.1,Y3 g.2.2.2.2.2.2,Y5 hk]at hR;obtain⟨kg,kc,c3,I,g,bN,aY,eZ⟩:=aJ.row bz QL;rw[cr]at c3 I bN;refine Zuy ?_;intro dY ez k0 k1;simp only[List.length_cons,List.length_nil]at c3 I;have J:(a.nt C.N).kid 0=x.nt C.N:=xX Q8;have O:(a.nt C.N).kid 1=y.nt C.N:=xX Q8;rw[J,O]at hR;refine Aak ?_;intro aq r1 bB bG am;unfold iC at hR;rw[<-bB]at bG am hR
 refine Xk ?_;intro bL HR HS;obtain⟨gY,HB,pC,oU,oV,HV⟩:=gw (hA.ext dL) ai (aJ.kid ez) (bz.kid ez) co hV;clear hz aC aZ cw aE aX eJ aJ bz dh di dj lf lr ln ha hf h hI aL fM dL ex ai ja aq c3 k0 k1 bN cr J O bB am hR hA co hV dY ez g;unfold ATree.ptr;rcases hk with hk|hk
 all_goals
  rw[hk]at c0 HS HR;go_enter func95,ntmps95
  go_wp2_with fail
  rw[<-HZ.o];clear f5 y5 g5 c0
 .skip
  refine v7 (.take 0 (.take 1 (.take 2 (.take 3 (.take 4 (.take 5 (.take 6 (.take 7 (.take 8 (.two 9 (.take 10 (.take 11 (.take 12 (.go 13 (.go 14 (.go 15 (.nil))))))) 13 (.go 9 (.take 10 (.take 11 (.take 12 (.go 14 (.go 15 (.nil))))))))))))))))) 14 (λW=>vC W w.heap.size 0 (.bool fr.strict)/\vC W w.heap.size 1 (vI fr.vars)/\vC W a.b 0 (vI 25)/\vC W a.b 3 (.slice (some ⟨kg,0,none⟩) 2 kc)/\vC W kg 0 (vP x.b)/\vC W kg 1 (vP y.b)) (HS.o _ _ (MFr.drew (.refl _ _))) ?_
  refine ra ?_;refine Zu ?_;apply Te (H:=sp C w M z r1);·exact Tm HS bG HE.o HO.o
  .exact OS HS bG HM HE.o HO.o
  intro W1 p1 M1 k1 n1 t1 bQ ai
  have ed:=lh (show∀W M',MFr M1 M' W1 W->vC W p1 0 (vI k1)/\vC W p1 1 (vI n1)/\vC W p1 2 (.string t1)/\vC W a.b 0 (vI 25)from
   λW M' f=>⟨(ai.2.fr f).cell rfl,(ai.2.fr f).cell rfl,(ai.2.fr f).cell rfl,(HS.o W M' (ai.1.2.1.trans f)).2.2.1⟩)
  obtain⟨s2,q1⟩:=r1;cases q1 with
  |error x1=>
    refine Xp ?_;intro he au hR;simp only at hR;subst hR;obtain⟨T1,P1,rfl,U⟩:=he.ne;have eg:=lh he;have bA:=lh au.o.1.2.1;obtain⟨b0,b1,b2,-⟩:=ed.o W1 M1 (.refl _ _);clear ai he HR;go_wp2_with fail
    refine Zwn ?_;exact Aa3
  |ok u=>
    obtain⟨rfl,rfl⟩:u=⟨k1,n1,t1⟩/\bQ=.nilIface:=ai.1.2.2;refine X7 ?_;intro i1 x1 eo i2 F1 dZ ty hst r2 hr2 bS bF;rw[<-hr2]at bS bF;have o:=HR.o;simp only at o;have hR:R=if(⟨k1,n1,t1⟩:LVal).true=((25:Int)==25:Bool)then(s2,.ok ⟨k1,n1,t1⟩)else r2:=by
     rw[o,hr2];split<;>rfl
    clear o;have bA:=lh F1;have bX:=lh dZ;obtain⟨F,p⟩:=zX ((⟨k1,n1,t1⟩:LVal).true)
    rw[<-p]at hR;have HT:=lh (λW=>Zdp W ⟨k1,n1,t1⟩);simp only[LVal.agg]at HT;rw[<-p]at HT;have cH:=lh (λW M' (f:MFr M1 M' W1 W)=>HS.o W M' (bA.o.trans f));have bD:=lh hR;clear ai i1 x1 eo i2 F1 dZ ty hst hr2 hR HR p;cases F
    all_goals
     go_wp2_with fail
     refine Zwn ?_;intro bw;refine iB ?_;intro K hK;refine Zym ?_;clear hK K;intro W2 aP b0 b1 b2
    .have an:R=r2:=by have :=bD.o;simpa using this
     clear bD;subst an;refine Zzs ?_;intro iF rP;go_wp2_with fail
     refine o4 [(true,0),(true,1),(true,2),(true,3),(true,4),(true,5),(true,6),(true,7),(true,8),(false,9),(true,10),(true,11)] [12,13] (λW=>vC W w.heap.size 0 (.bool fr.strict)/\vC W w.heap.size 1 (vI fr.vars)/\vC W a.b 0 (vI 25)/\vC W a.b 3 (.slice (some ⟨kg,0,none⟩) 2 kc)/\vC W kg 0 (vP x.b)/\vC W kg 1 (vP y.b)) (iF.o _ _ (.drew (.refl _ _))) (λbw=>?_);exact tu7
    .exact Aa7
 .skip
  refine v7 (.take 0 (.take 1 (.take 2 (.take 3 (.take 4 (.take 5 (.take 6 (.take 7 (.take 8 (.two 9 (.take 10 (.take 11 (.take 12 (.go 13 (.go 14 (.go 15 (.nil))))))) 13 (.go 9 (.take 10 (.take 11 (.take 12 (.go 14 (.go 15 (.nil))))))))))))))))) 14 (λW=>vC W w.heap.size 0 (.bool fr.strict)/\vC W w.heap.size 1 (vI fr.vars)/\vC W a.b 0 (vI 26)/\vC W a.b 3 (.slice (some ⟨kg,0,none⟩) 2 kc)/\vC W kg 0 (vP x.b)/\vC W kg 1 (vP y.b)) (HS.o _ _ (MFr.drew (.refl _ _))) ?_
  refine ra ?_;refine Zu ?_;apply Te (H:=sp C w M z r1);·exact Tm HS bG HE.o HO.o
  .exact OS HS bG HM HE.o HO.o
  intro W1 p1 M1 k1 n1 t1 bQ ai
  have ed:=lh (show∀W M',MFr M1 M' W1 W->vC W p1 0 (vI k1)/\vC W p1 1 (vI n1)/\vC W p1 2 (.string t1)/\vC W a.b 0 (vI 26)from
   λW M' f=>⟨(ai.2.fr f).cell rfl,(ai.2.fr f).cell rfl,(ai.2.fr f).cell rfl,(HS.o W M' (ai.1.2.1.trans f)).2.2.1⟩)
  obtain⟨s2,q1⟩:=r1;cases q1 with
  |error x1=>
    refine Xp ?_;intro he au hR;simp only at hR;subst hR;obtain⟨T1,P1,rfl,U⟩:=he.ne;have eg:=lh he;have bA:=lh au.o.1.2.1;obtain⟨b0,b1,b2,-⟩:=ed.o W1 M1 (.refl _ _);clear ai he HR;go_wp2_with fail
    refine Zv7 ?_;exact Aa3
  |ok u=>
    obtain⟨rfl,rfl⟩:u=⟨k1,n1,t1⟩/\bQ=.nilIface:=ai.1.2.2;refine X7 ?_;intro i1 x1 eo i2 F1 dZ ty hst r2 hr2 bS bF;rw[<-hr2]at bS bF;have o:=HR.o;simp only at o;have hR:R=if(⟨k1,n1,t1⟩:LVal).true=((26:Int)==25:Bool)then(s2,.ok ⟨k1,n1,t1⟩)else r2:=by
     rw[o,hr2];split<;>rfl
    clear o;have bA:=lh F1;have bX:=lh dZ;obtain⟨F,p⟩:=zX ((⟨k1,n1,t1⟩:LVal).true)
    rw[<-p]at hR;have HT:=lh (λW=>Zdp W ⟨k1,n1,t1⟩);simp only[LVal.agg]at HT;rw[<-p]at HT;have cH:=lh (λW M' (f:MFr M1 M' W1 W)=>HS.o W M' (bA.o.trans f));have bD:=lh hR;clear ai i1 x1 eo i2 F1 dZ ty hst hr2 hR HR p;cases F
    all_goals
     go_wp2_with fail
     refine Zv7 ?_;intro bw;refine iB ?_;intro K hK;refine Zym ?_;clear hK K;intro W2 aP b0 b1 b2
    .exact Aa7
    .have an:R=r2:=by have :=bD.o;simpa using this
     clear bD;subst an;refine Zzs ?_;intro iF rP;go_wp2_with fail
     refine o4 [(true,0),(true,1),(true,2),(true,3),(true,4),(true,5),(true,6),(true,7),(true,8),(false,9),(true,10),(true,11)] [12,13] (λW=>vC W w.heap.size 0 (.bool fr.strict)/\vC W w.heap.size 1 (vI fr.vars)/\vC W a.b 0 (vI 26)/\vC W a.b 3 (.slice (some ⟨kg,0,none⟩) 2 kc)/\vC W kg 0 (vP x.b)/\vC W kg 1 (vP y.b)) (iF.o _ _ (.drew (.refl _ _))) (λbw=>?_);exact tu7
end
