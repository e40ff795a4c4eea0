import Derived.Test.YtkebnpemgkjpkaaGreatDoorJ25
import Derived.Shelf.Strings.OnBuilder
set_option maxRecDepth 100000
set_option maxHeartbeats 20000000
set_option linter.all false
namespace Go.Proofs.YtkebnpemgkjpkaaGreatDoor
open Go Go.RowKit Go.Proofs.Tryz Tryz
section
variable {C:RCtx}{M M1:MRep}{w z W:kV}{s:MSt}{B:Nat}{a x0:ATree}{l:List ATree}{V:VF}{D:DF}{b sc:Int}{fr:Frm}{d:Nat}{A:Act}{K:Act->kV->Prop}{vs:List LVal}{v:Value}{code:Int}{RR:MSt×Except Er LVal}
theorem Zos:dT [1,1,1,1,1,1,1,1]=Code.seq (dT [1,1,1,1,1,1,1,1,0]) (Code.seq (dT [1,1,1,1,1,1,1,1,1,0]) (Code.seq (dT [1,1,1,1,1,1,1,1,1,1,0]) (Code.seq (dT [1,1,1,1,1,1,1,1,1,1,1,0]) (Code.seq (dT [1,1,1,1,1,1,1,1,1,1,1,1,0]) (Code.seq (dT [1,1,1,1,1,1,1,1,1,1,1,1,1,0]) (dT [1,1,1,1,1,1,1,1,1,1,1,1,1,1])))))):=by kernel_rfl
theorem Zd2:sW.toList=[101,118,97,108]:=by kernel_rfl
def MAt.clo(h:MAt C M1 W s){k:Nat}{x:CloR}(hx:M1.cl[k]?=some x):∃g cap,M1.row 3=.slice (some ⟨g,0,none⟩) M1.cl.length cap/\M1.cl.length<=cap/\cap<=maxLen/\g<W.heap.size/\M1.has g/\vC W C.mb 9 (.slice (some ⟨g,0,none⟩) M1.cl.length cap)/\
 W.cell? ⟨g,k*3,none⟩=some (vP x.a.b)/\W.cell? ⟨g,k*3+1,none⟩=some (vI x.scope)/\W.cell? ⟨g,k*3+2,none⟩=some (.bool x.strict):=by
 have p:W.ownsRow 0 117 3 (M1.row 3) M1.cl.length (M1.cl.flatMap CloR.cells):=h.rows 3 Py;have hc:=h.rcell 3 Py;have hl:=(List.getElem?_eq_some_iff.1 hx).1;rcases Z4 p with⟨hv,F⟩|⟨g,c,hv,h1,u,y⟩;·omega
 .rw[hv]at hc
  exact⟨g,c,hv,h1,u,y,.inr ⟨3,by decide,by rw[hv];rfl⟩,hc,SH (f:=CloR.cells) (m:=3) (λ_=>rfl) p (g:=g) PW (i:=k) (j:=0) hx rfl,
   SH (f:=CloR.cells) (m:=3) (λ_=>rfl) p (g:=g) PW (i:=k) (j:=1) hx rfl,SH (f:=CloR.cells) (m:=3) (λ_=>rfl) p (g:=g) PW (i:=k) (j:=2) hx rfl⟩
def Ztj(gj:K8 C.w0)(hW:Words C.w0)(hL:Gv C.w0 C.w0.heap.size)(cT:G8 C D b)(hD:DH D b)(hc:CaC C M w z a x0 l B fr)(F:MAt C M1 W s)(O:MFr M M1 z W)(hI:Inv s (d+17000))(hA:FAt s sc fr)(hb:b<=s.steps)(hs:s.steps<=20000)
 (ae:∃wA,VRow C M1 wA W v vs)(dt:∀u∈vs,VQ s u)(hl:vs.length<=1500)(gi:0<=code/\code<3+s.clos.length/\code≠0/\code≠1)(h2:code=2->∃u l',vs=u::l')
 (I:RR=if s.calls=40 then(s,.error (.thr (.say T3)))else T4 s (T9 D (a.nt C.N) sc fr code vs {s with calls:=s.calls+1}))(lM:FrA 214 (T5 C w a sc [(12,v),(17,vI code)]) [] A) :
 (dT [1,1,1,1,1,1,1,1]).wp Tryz.prog (Zny Tryz.prog f133 (λe w'=>cK C M w RR e w')) A W:=by
 obtain⟨kg,kc,cC,aR,hk⟩:=hc.two;obtain⟨wA,ae⟩:=ae;have uv:∃wA,VRow C M1 wA W v vs:=⟨wA,ae⟩
 obtain⟨pv,cv,gV,jN,iM,iH⟩:=ae.form;have l0:=(hc.lm.fr O).cell (i:=0) rfl;have CS:=F.cell 13 (vI s.calls) PI;have AR:=F.cell 14 (vI s.last.kind) PI;have AS:=F.cell 15 (vI s.last.n) PI;have tS:=F.cell 16 (.string s.last.s) PI;have J3:=F.fz 13;have NP:=hI.calls;obtain⟨n,bF⟩:=zX vs.length
 have dr:v=.slice pv n cv:=by rw[bF];exact gV
 obtain⟨i8,HLR,HBZ,HM,HF⟩:=gp hc hc.lr hc.below F O;obtain⟨y,sV⟩:=zX s.calls
 rw[<-sV]at CS I NP;have jx:IntKind.i64.wrap (y+1)=y+1:=IntWalk.i64_in _ Px;obtain⟨lk,fj⟩:=zX s.last.kind
 obtain⟨ln,ia⟩:=zX s.last.n
 obtain⟨lt,ay⟩:=zX s.last.s
 rw[<-fj]at AR;rw[<-ia]at AS;rw[<-ay]at tS;have dI:w.heap.size≠C.mb:=λe=>(hc.lm.fr O).free (e▸F.mbHas);unfold T5 at lM;rw[dr]at lM;obtain⟨xt,rfl,e1,e2,e4,e7,e8,lN,Bh,-⟩:=Zej lM;rw[e1,e2,e4,e7,e8,lN,Bh];clear e1 e2 e4 e7 e8 lN Bh lM;rw[Zos];by_cases vh:y=40
 .rw[Y5 vh]at I;have fd:=lh I;subst vh;have jp:=Sf F T3;simp only[T3]at jp;have uN:=lh jp;clear gj hW hL cT hD hc F O hI hA hb hs ae uv dt hl gi h2 I hk iH jp gV dr AR AS tS sV fj ia ay;refine wp_seq_k (λK hK=>?_);clear hK;conv=>arg 2;whnf
  go_wp2_with fail
  refine uN.o.mono ?_;rintro e w5⟨o6,rfl,rm,eM⟩;have xw:=lh (show ax C M1 w5 (.thr (.say T3)) o6 from rm);exact AaP
 ·rw [Y3 vh] at I;obtain ⟨s1, U⟩ : ∃ s1 : MSt, s1 = { s with calls := y + 1 } := ⟨_, rfl⟩
  rw[<-U]at I;obtain⟨r,hr⟩:=zX (T9 D (a.nt C.N) sc fr code vs s1)
  rw[<-hr]at I;have fW:Inv s1 (d+17000):=by rw[U];exact(Inv.turn (k:=s.steps) (c:=y+1) (v:=s.last) (d':=d+17000) hI (Int.le_refl _) hI.steps.2 Px hI.last Px).1
  have GA:Ext s s1:=by rw[U];exact⟨Y0 _,λi c h=>⟨c,h,rfl,rfl⟩,Y0 _,⟨[],(List.append_nil _).symm⟩,⟨[],(List.append_nil _).symm⟩,rfl,rfl,rfl,Int.le_refl _,⟨[],(List.append_nil _).symm⟩,⟨[],(List.append_nil _).symm⟩⟩
  have kv:=hA.ext GA;have ww:∀u∈vs,VQ s1 u:=λu hu=>VQ.ext (dt u hu) GA;have dv:s1.steps=s.steps:=by rw[U]
  have oI:s1.clos=s.clos:=by rw[U]
  have an:=Zir (n:=a.nt C.N) (code:=code) (args:=vs) (d:=d) hD fW kv ⟨gi.1,by rw[oI];exact gi.2.1,gi.2.2.1,gi.2.2.2⟩ ww hl Px Px;rw[<-hr]at an;obtain⟨yv,pS,fd⟩:=ds (show r.1.calls=s.calls+1 from an.2.2.1.trans (by rw[U,sV])) (show 0<=s.calls/\s.calls<=40 from hI.calls) I;obtain⟨X,g2⟩:=Ze1 F (y+1);have X:MAt C M1 (W.setCell ⟨C.mb,13,none⟩ (vI (y+1))) s1:=by rw[U];exact X
  obtain⟨W1,ui⟩:=zX (W.setCell ⟨C.mb,13,none⟩ (vI (y+1)))
  rw[<-ui]at X g2;have qn:W1.heap.size=W.heap.size:=by rw[ui];simp[World.setCell]
  have ar:=Z1 W1 (.cells #[vI lk,vI ln,.string lt] 56);have cX:=Lo.new (wE:=w) X (by rw[qn];exact Y4 hc.below.size O.size) hc.old #[vI lk,vI ln,.string lt] 56;rw[qn]at cX;obtain⟨W2,gF⟩:=zX (W1.alloc (.cells #[vI lk,vI ln,.string lt] 56))
  rw[<-gF]at cX ar;have aM:=X.below ar;have qK:=g2.trans (.of_below ar);have ap:=O.trans qK;have Bi:W.heap.size≠w.heap.size+1+1:=by have:=hc.lr.lt;have:=O.size;omega
  rw[fj,ia,ay]at cX;obtain⟨gS,yw,Y,ba,fq,pi,oH⟩:=gw cX Bi aM ap (show W2=(W.setCell ⟨C.mb,13,none⟩ (vI (y+1))).alloc (.cells #[vI lk,vI ln,.string lt] 56) by rw[gF,ui]) hk (show∃wA,VRow C M1 wA W2 v vs from⟨wA,ae.fr qK⟩)
  have pG:=lh (show∀(i:Nat) (u:LVal),vs[i]?=some u->∃g,pv=some ⟨g,0,none⟩/\∀M' m,MFr M1 M' W2 m->m.cell? ⟨g,i*3+2,none⟩=some (.string u.s)from
   λi u hu=>by
    obtain⟨g,e1,e2,e3,a0,a1,a2⟩:=iH i u hu;exact⟨g,e1,λM' m f=>((qK.trans f).cell e2 e3).trans a2⟩)
  obtain⟨HR,eC,oZ,fy,fO,Z,Bj,H2,jD,iP,HD,GB⟩:=oh hr fW kv ww hl (show b<=s1.steps/\s1.steps<=20000 by omega) gi h2 (Yu gj (Yu hW hL)) cT hD hc.ok;obtain⟨NQ,pR,NR,GC,Pk⟩:=gp dr bF oI F.clos qK;clear gj hW hL cT hD hc F O hI hA hb hs ae uv dt hl gi h2 I hk iH gV dr U hr fW GA kv ww dv oI an X g2 ui qn ar cX gF aM qK ap Bi sV fj ia ay bF
  refine dq ?_;intro K HK;go_wp2_with fail
  refine HK.o _ _ ?_;clear HK K;refine dq ?_;intro K HK;go_wp2_with fail
  refine HK.o _ _ ?_;clear HK K;obtain⟨b0,b1,b2,b3⟩:(W.setCell ⟨C.mb,13,none⟩ (vI (y+1))).cell? ⟨w.heap.size,0,none⟩=some (vP C.mb)/\(W.setCell ⟨C.mb,13,none⟩ (vI (y+1))).cell? ⟨C.mb,14,none⟩=some (vI lk)/\(W.setCell ⟨C.mb,13,none⟩ (vI (y+1))).cell? ⟨C.mb,15,none⟩=some (vI ln)/\(W.setCell ⟨C.mb,13,none⟩ (vI (y+1))).cell? ⟨C.mb,16,none⟩=some (.string lt):=by
   refine⟨(Yr _ _ _ _ (by intro e;have h:=congrArg Addr.block e;first|exact dI h|exact dI h.symm)).trans l0,(Yr _ _ _ _ PJ).trans AR,(Yr _ _ _ _ PJ).trans AS,(Yr _ _ _ _ PJ).trans tS⟩
  clear l0 CS AR AS tS J3;refine dq ?_;intro K HK;go_wp2_with fail
  refine HK.o _ _ ?_;clear HK K b0 b1 b2 b3;rw[<-fq.o];refine dq ?_;intro K HK;go_wp2_with fail
  refine HK.o _ _ ?_;clear HK K;obtain⟨f0,f1,f2,d3,nS,-⟩:=pi.o _ _ ba.o;have fU:=ba.o.tree (i8.o.kid (Yv)).1 (i8.o.kid (Yv)).2;have e0:=fU.1.c0;have e1:=fU.1.c1;clear fU;by_cases lC:code=2
  .obtain⟨u,l',rx⟩:=H2.o lC;have gm:vs[0]? =some u:=by rw[rx];rfl
   have iR:n=l'.length+1:=by rw[pR.o,rx];rfl
   obtain⟨gv,sR,fL⟩:=pG.o 0 u gm;subst sR;have hr2:r=if x0.kind=23/\x0.text=sW then S3 D u.s sc fr s1 else S3 D u.s s1.top ⟨false,s1.outer⟩ s1:=by
    rw[HR.o];unfold T9;rw[Y3 (by rw[lC];simp),rx];have ek:(a.nt C.N).kid 0=x0.nt C.N:=wX (by rw[i8.o.kids];rfl);rw[ek,Zb,rH];rfl
   have bA:=lh hr2;have HG:=lh fL;have Pl:0<n:=Px
   obtain⟨J,Kx⟩:=zX u.s
   have C9:=lh Kx;subst lC;clear rx gm iR hr2 fL Kx;refine dq ?_;intro K HK;go_wp2_with fail
   refine HK.o _ _ ?_;clear HK K;refine dq ?_;intro K HK;by_cases gW:x0.kind=23/\x0.text=sW
   .obtain⟨oJ,bc⟩:=gW;have de:r=S3 D J sc fr s1:=by rw[bA.o,Y5 ⟨oJ,bc⟩,C9.o]
    have Et:(x0.text.toList== [101,118,97,108])=true:=by rw[<-Zd2,bc];simp
    rw[oJ]at e0;have p:=Calls.vres (Zel jD.o.2.1 jD.o.2.2 GB.o iP.o HD.o Y.o.drew (d:=d+3399) eC.o oZ.o Z.o.1 Z.o.2 J);rw[<-de]at p;have rR:=lh p
    have rl:=lh (show∀m M',MFr M1 M' W2 m->vC m w.heap.size 0 (vP C.mb)/\vC m (w.heap.size+1) 0 (.bool fr.strict)/\vC m (w.heap.size+1) 1 (vI fr.vars)/\vC m gv 2 (.string J)from
     λm M' f=>by
      obtain⟨g0,X,g2,-⟩:=pi.o _ _ (ba.o.trans f);have g3:=HG.o M' m f;rw[C9.o];exact⟨g0,X,g2,by simpa using g3⟩)
    clear oJ de p bc;go_wp2_with fail
    refine Z9 [(true,0),(true,1),(true,2),(true,3),(true,4),(true,5),(true,6),(false,7),(true,8),(true,9)] [10,11] (λW=>vC W w.heap.size 0 (vP C.mb)/\vC W (w.heap.size+1) 0 (.bool fr.strict)/\vC W (w.heap.size+1) 1 (vI fr.vars)/\vC W gv 2 (.string J)) Pz Pz (λ_ _ d _ _ h=>False.elim h) (rl.o _ _ (.drew (.refl _ _))) (λbq=>?_);refine oK ?_;exact AcK
   .have de:r=S3 D J s1.top ⟨false,s1.outer⟩ s1:=by rw[bA.o,Y3 gW,C9.o]
    have p:=Calls.vres (Zel (fr:=⟨false,s1.outer⟩) (sc:=s1.top) jD.o.2.1 jD.o.2.2 GB.o iP.o HD.o Y.o.drew (d:=d+3399) eC.o (Zoz oZ.o) Z.o.1 Z.o.2 J);rw[<-de]at p;have yf:=(Zd8 (d:=d+3399) (text:=J) HD.o eC.o (Zoz oZ.o) Z.o.1 Z.o.2)
    rw[<-de]at yf;have GD:=yf.2.1;have C':=lh (show r.1.top=s1.top/\r.1.outer=s1.outer from⟨GD.top,GD.outer⟩);have mX:=Y.o.cell 12 (vI s1.top) PI;have wC:=Y.o.cell 11 (vI s1.outer) PI;obtain⟨tp,Ky⟩:=zX s1.top
    obtain⟨ou,x8⟩:=zX s1.outer
    rw[<-Ky]at p mX C';rw[<-x8]at p wC C';have rR:=lh p
    have ny:=lh (show∀m M',MFr M1 M' W2 m->vC m w.heap.size 0 (vP C.mb)/\vC m gv 2 (.string J)from
     λm M' f=>by
      obtain⟨g0,-⟩:=pi.o _ _ (ba.o.trans f);have g3:=HG.o M' m f;rw[C9.o];exact⟨g0,by simpa using g3⟩)
    have GE:=lh (Yu mX wC);have df:(x0.kind=23/\(x0.text.toList== [101,118,97,108])=false)\/((x0.kind==23)=false/\decide (x0.kind=23)=false):=by
     by_cases iv:x0.kind=23
     .refine .inl ⟨iv,?_⟩;cases hb:(x0.text.toList== [101,118,97,108])with
      |false=>rfl
      |true=>
        rw[<-Zd2,Ti]at hb;exact absurd ⟨iv,Z7z.1 hb⟩ gW
     .exact .inr ⟨by simpa using iv,by simpa using iv⟩
    clear gW de p yf GD mX wC Ky x8;rcases df with⟨oJ,Et⟩|⟨cC,NS⟩
    all_goals
     (try rw[oJ]at e0)
     (try clear oJ)
     go_wp2_with fail
     refine HK.o _ _ ?_;clear HK K;conv=>arg 2;whnf
     go_wp2_with fail
     refine Z9 [(true,0),(true,1),(true,2),(true,3),(true,4),(true,5),(true,6),(true,7),(true,8),(true,9),(true,10),(true,11),(true,12),(true,13),(false,14),(true,15),(true,16)] [17,18] (λW=>vC W w.heap.size 0 (vP C.mb)/\vC W gv 2 (.string J)/\vC W C.mb 12 (vI tp)/\vC W C.mb 11 (vI ou)) Pz Pz (λ_ _ d _ _ h=>False.elim h) (⟨(ny.o _ _ (.drew (.refl _ _))).1,(ny.o _ _ (.drew (.refl _ _))).2,GE.o⟩) (λbq=>?_)
     refine f8 ?_;intro K hK;refine rR.o.mono ?_;rintro e W3⟨M3,k3,n3,t3,fg,rfl,de⟩;have F3:=(MFr.drew (.refl M1 W2)).trans de.2.1;refine hK _ _ ⟨(ny.o _ _ F3).1,(ny.o _ _ F3).2,by rw[<-C'.o.1];exact de.1.cell 12 (vI r.1.top) PI,by rw[<-C'.o.2];exact de.1.cell 11 (vI r.1.outer) PI⟩ ?_;clear hK K;obtain⟨dQ,bK,oR⟩:=ds de (ba.o.trans F3) (gS.o.fr F3);refine Xw ?_;intro q0 q1 q2 z0 z1 z2;clear de F3 rR;refine B' ?_;go_wp2_with fail
     show Go.Leaves _ _ _ _ _ _ _;exact Zia (r:=r) i8.o dQ.o.1 bK.o (yv.o) pS.o oR.o yw.o fd.o dQ.o.2.2 rfl rfl
  .obtain⟨k,yY⟩:∃k:Nat,code=((k+3:Nat):Int):=⟨(code-3).toNat,by have :=Bj.o;omega⟩
   have aX:k<M1.cl.length:=by have h1:=Bj.o.2.1;have h2:=GC.o;rw[h2,Ym]at h1;omega
   obtain⟨x,hx⟩:∃x,M1.cl[k]?=some x:=⟨_,Y6 aX⟩
   obtain⟨gc,cap,Bk,Bm,uw,cV,NU,r9,ye,Kz,KA⟩:=Y.o.clo hx;have D5:IntKind.i64.wrap (code-3)=(k:Int):=by
    rw[yY,show((k+3:Nat):Int)-3=(k:Int) by omega];unfold maxLen at uw;exact IntWalk.i64_in _ Px
   have dX:=Yd hx;have jJ:=Y.o.trees x dX;have GF:s1.clos[k]?=some (x.clo C.N):=by rw[Y.o.clos,Yg,hx];rfl
   have Da:=eC.o.clo (x.clo C.N) (Yd GF);have hr2:r=U7 D (x.clo C.N) vs s1:=by
    rw[HR.o];unfold T9;rw[Y5 lC,show(code-3).toNat=k by omega,List.getD_eq_getElem?_getD,GF];rfl
   have mT:∃wA,VRow C M1 wA W2.drew v vs:=by
    obtain⟨wA,h⟩:=oH.o;exact⟨wA,h.fr (.drew (.refl _ _))⟩
   have p:=Calls.vres (Zjs (x:=x) (v:=v) (vs:=vs) jD.o.1 GB.o iP.o HD.o Y.o.drew (d:=d) eC.o oZ.o.root Da.1 Da.2.1 Da.2.2 jJ.1.drew jJ.2 mT fy.o fO.o Z.o.1 Z.o.2);rw[<-hr2,NQ.o]at p;obtain⟨cn,vQ⟩:=zX M1.cl.length
   rw[<-vQ]at r9 aX Bm;simp only[ATree.ptr]at p;obtain⟨xb,g9⟩:=zX x.a.b
   obtain⟨xs,cD⟩:=zX x.scope
   obtain⟨xr,vb⟩:=zX x.strict
   rw[<-g9,<-cD,<-vb]at p;rw[<-g9]at ye;rw[<-cD]at Kz;rw[<-vb]at KA;have rR:=lh p;have rl:=lh (show∀m M',MFr M1 M' W2 m->vC m w.heap.size 0 (vP C.mb)from λm M' f=>(pi.o _ _ (ba.o.trans f)).1);have GH:(code==2)=false:=by simp;exact lC
   have GI:decide (code=2)=false:=by simp;exact lC
   unfold maxLen at uw;clear yY hx Bk dX jJ GF Da hr2 mT p vQ g9 cD vb NU cV;refine dq ?_;intro K HK;go_wp2_with fail
   clear lC GH GI;refine Z9 [(true,5),(true,6),(true,9),(true,0),(true,1),(true,2),(true,3),(false,4),(true,7),(false,8),(false,10),(true,11),(true,12)] [13,14] (λW=>vC W w.heap.size 0 (vP C.mb)) Pz Pz (λ_ _ d _ _ h=>False.elim h) f0 (λbq=>?_);refine oK ?_;have Pm:W2.drew.cell? ⟨C.mb,9,none⟩=some (.slice (some ⟨gc,0,none⟩) cn cap):=r9;refine Ze (λK hK=>?_);go_simp
   refine hK _ _ (show _ from f0) ?_;clear hK K;refine oK ?_;have NV:W2.drew.cell? ⟨gc,k*3,none⟩=some (vP xb):=ye;have NW:W2.drew.cell? ⟨gc,k*3+1,none⟩=some (vI xs):=Kz;have NX:W2.drew.cell? ⟨gc,k*3+2,none⟩=some (.bool xr):=KA;refine Ze (λK hK=>?_);go_simp
   refine hK _ _ (show _ from f0) ?_;clear hK K;exact AcK
end
end Go.Proofs.YtkebnpemgkjpkaaGreatDoor
namespace Go.Proofs
def Tryz.lays156_ren:Go.Shelf.Ren:=⟨fun|156=>142|165=>156|166=>157|169=>91|240=>126|241=>165|276=>138|277=>167|n=>n,fun|31=>27|9=>9|3=>3|4=>4|0=>0|20=>20|72=>184|76=>232|70=>181|37=>182|75=>32|127=>204|164=>119|5=>5|80=>186|n=>n,fun|n=>n⟩
def Tryz.lays156:Go.Proofs.Lays.n156 Tryz.prog Tryz.lays156_ren:={
 mixed:=by kernel_rfl
 f156:=Tryz.func142.trans (congrArg some (by kernel_rfl))
 f165:=Tryz.func156.trans (congrArg some (by kernel_rfl))
 f166:=Tryz.func157.trans (congrArg some (by kernel_rfl))
 f169:=Tryz.func91.trans (congrArg some (by kernel_rfl))
 f240:=Tryz.func126.trans (congrArg some (by kernel_rfl))
 f241:=Tryz.func165.trans (congrArg some (by kernel_rfl))
 f276:=Tryz.func138.trans (congrArg some (by kernel_rfl))
 f277:=Tryz.func167.trans (congrArg some (by kernel_rfl))
 t0:=Tryz.underlying0
 a0:=Tryz.isAgg0
 z0:=Tryz.sizeOf0
 v0:=Tryz.zeroValue0
 t3:=Tryz.underlying3
 a3:=Tryz.isAgg3
 z3:=Tryz.sizeOf3
 v3:=Tryz.zeroValue3
 t4:=Tryz.underlying4
 a4:=Tryz.isAgg4
 z4:=Tryz.sizeOf4
 v4:=Tryz.zeroValue4
 t9:=Tryz.underlying9
 a9:=Tryz.isAgg9
 z9:=Tryz.sizeOf9
 v9:=Tryz.zeroValue9
 t20:=Tryz.underlying20
 a20:=Tryz.isAgg20
 z20:=Tryz.sizeOf20
 v20:=Tryz.zeroValue20
 t31:=Tryz.underlying27
 a31:=Tryz.isAgg27
 z31:=Tryz.sizeOf27
 v31:=Tryz.zeroValue27
 t37:=Tryz.underlying182
 a37:=Tryz.isAgg182
 z37:=Tryz.sizeOf182
 v37:=Tryz.zeroValue182
 t70:=Tryz.underlying181
 a70:=Tryz.isAgg181
 z70:=Tryz.sizeOf181
 v70:=Tryz.zeroValue181
 t72:=Tryz.underlying184
 a72:=Tryz.isAgg184
 z72:=Tryz.sizeOf184
 v72:=Tryz.zeroValue184
 t75:=Tryz.underlying32
 a75:=Tryz.isAgg32
 z75:=Tryz.sizeOf32
 v75:=Tryz.zeroValue32
 t76:=Tryz.underlying232
 a76:=Tryz.isAgg232
 z76:=Tryz.sizeOf232
 v76:=Tryz.zeroValue232
 t127:=Tryz.underlying204
 a127:=Tryz.isAgg204
 z127:=Tryz.sizeOf204
 v127:=Tryz.zeroValue204
 t164:=Tryz.underlying119
 a164:=Tryz.isAgg119
 z164:=Tryz.sizeOf119
 v164:=Tryz.zeroValue119}
def Tryz.Builder_Extra_156:Builder.Extra Tryz.prog Tryz.lays156_ren:={
 sizeBuilder:=by kernel_rfl
 liesBuilder:=by kernel_rfl
 t5:=Tryz.underlying5
 a5:=Tryz.isAgg5
 z5:=Tryz.sizeOf5
 v5:=Tryz.zeroValue5
 infoByte:=by kernel_rfl
 cellsByte:=by kernel_rfl
 sizeByte:=by kernel_rfl
 neB5:=by decide}
open Go.RowKit in
theorem Tryz.strings_Join_none(a:Option Addr)(c:Nat)(g:ByteArray)(w:World) :
 Calls Tryz.prog 142 #[.slice a 0 c,.string g] w λe w'=>e=.returned (.string ⟨#[]⟩)/\w'=w:=Any.strings_Join_none Tryz.lays156 Tryz.Builder_Extra_156 a c g w
open Go.RowKit in
theorem Tryz.strings_Join(g o c:Nat)(xs:List ByteArray)(m:ByteArray)(w:World)(p:∀(j:Nat) x,xs[j]?=some x->w.cell? ⟨g,o+j,none⟩=some (.string x))(u:g<w.heap.size)(y:xs.length<=140737488355328)(F:xs.length<=c)(G:(Lib.join (xs.map (·.data.toList)) m.data.toList).length<=140737488355328) :
 Calls Tryz.prog 142 #[.slice (some ⟨g,o,none⟩) xs.length c,.string m] w λe w'=>e=.returned (.string ⟨(Lib.join (xs.map (·.data.toList)) m.data.toList).toArray⟩)/\Below w.heap.size w w':=Any.strings_Join Tryz.lays156 Tryz.Builder_Extra_156 g o c xs m w p u y F G
end Go.Proofs
namespace Go.Proofs.YtkebnpemgkjpkaaGreatDoor
open Go Go.RowKit Go.Proofs.Tryz Tryz
section
variable {C:RCtx}{M M1:MRep}{w z W:kV}{s:MSt}{B:Nat}{a x0:ATree}{l:List ATree}{V:VF}{D:DF}{b sc:Int}{fr:Frm}{d:Nat}{A:Act}{K:Act->kV->Prop}{Q:Exit->Act->kV->Prop}{vs:List LVal}{v:Value}{RR:MSt×Except Er LVal}
theorem Zmv{n:Nat}:∀l:List (List UInt8),(∀x∈l,x.length<=n)->Lib.lens l<=n*l.length
 | [],_=>by simp[Lib.lens]
 |x::l,h=>by
   have h1:=Zmv l λy hy=>h y Sb;have g:=h x PE;have e:Lib.lens (x::l)=x.length+Lib.lens l:=by simp[Lib.lens]
   rw[e,List.length_cons,Nat.mul_add];omega
def Zki{w:kV}{B:Nat}{v:Value}{l:List kB}(h:Zz w B v l)(hn:l.length<=1500)(hs:∀x∈l,x.size<=8388608) :
 kC 142 #[v,.string ⟨#[32]⟩] w λe w'=>e=.returned (.string (U1 l))/\kW w w':=by
 rcases Z4 h with⟨hv,m⟩|⟨g,c,hv,h1,O,p⟩
 .have e:=List.eq_nil_of_length_eq_zero m;subst e;rw[hv,show U1 []=⟨#[]⟩ by simp[U1,Lib.join]];refine(Tryz.strings_Join_none none 0 _ w).mono ?_;rintro e w'⟨rfl,rfl⟩;exact⟨rfl,Y2 _ _⟩
 ·rw [hv];have u:(Lib.join (l.map (·.data.toList)) [32]).length≤140737488355328:=by
   cases l with
   |nil=>simp[Lib.join]
   |cons x r=>
     rw[List.map_cons,Lib.join_length];have F:=Zmv (n:=8388608) ((x::r).map (·.data.toList)) (λy I=>by
      obtain⟨z,m,rfl⟩:=List.mem_map.1 I;have:=hs z m;show z.data.toList.length<=8388608;rw[Array.length_toList];exact this)
     rw[List.map_cons,List.length_cons,Ym]at F;rw[List.length_cons]at hn;rw[show([32]:List UInt8).length=1 from rfl,Ym];omega
  refine(Tryz.strings_Join g 0 c l ⟨#[32]⟩ w (λj x hx=>?_) p Px h1 u).mono ?_
  .rw[Nat.zero_add];exact h.cells (b:=g) PW hx
  .rintro e w'⟨rfl,J⟩;exact⟨rfl,J⟩
def Zpj(gj:K8 C.w0)(hc:CaC C M w z a x0 l B fr)(hM:MAt C M1 W s)(hF:MFr M M1 z W)(hI:Inv s (d+1)){wA:kV}(ae:VRow C M1 wA W v vs)(dt:∀u∈vs,VQ s u)(hl:vs.length<=1500)
 (aQ:RR=(({s with log:=s.log++[U1 (vs.map s.H.shown)]}:MSt),.ok LVal.zero))(lM:FrA 214 (T5 C w a sc [(12,v)]) [] A)
 (hQ:∀c a d v w,Q (.panic c) (Act.put a d v) w->Q (.panic c) a w)(KB:∀y a' w',(results f133 a'.tmps).run Tryz.prog w'=.ok y w'->a'.defers=[]->cK C M w RR (.returned y) w'->Q .ret a' w') :
 (dT [1,1,1,1,1,1,1,0,0,1,1,1,0]).wp Tryz.prog Q A W:=by
 obtain⟨i0,hi,aC,bo,bQ⟩:=info_parts zg;obtain⟨pv,cv,gV,jN,iM,iH⟩:=ae.form;obtain⟨n,bF⟩:=zX vs.length
 rw[<-bF]at gV jN hl;have HN:=lh bF
 have pG:=lh (show∀(i:Nat) (u:LVal),vs[i]?=some u->∃g,pv=some ⟨g,0,none⟩/\∀m,kW W m->m.cell? ⟨g,i*3,none⟩=some (vI u.kind)/\m.cell? ⟨g,i*3+1,none⟩=some (vI u.n)/\m.cell? ⟨g,i*3+2,none⟩=some (.string u.s)from
  λi u hu=>by
   obtain⟨g,h1,h2,h3,a0,a1,a2⟩:=iH i u hu;exact⟨g,h1,λm f=>⟨(f.cell (p:=⟨g,i*3,none⟩) h2).trans a0,(f.cell (p:=⟨g,i*3+1,none⟩) h2).trans a1,(f.cell (p:=⟨g,i*3+2,none⟩) h2).trans a2⟩⟩)
 obtain⟨KC,mJ,X,HBZ,HF,HM,HI,wh,oV,fd,fA,NY⟩:=oh (show∀m,kW W m->vC m w.heap.size 0 (vP C.mb)from λm f=>((hc.lm.fr hF).bel f).cell rfl) hc.lm hc.lr hc.below hF hM hI gj dt aQ hQ KB;have xq:=lh (show∀x∈vs.map s.H.shown,x.size<=8388608 from λx hx=>by
  obtain⟨u,hu,rfl⟩:=List.mem_map.1 hx;exact Z90 s.H (dt u hu) hI.objs)
 unfold maxLen at iM;subst gV;unfold T5 at lM;obtain⟨xt,rfl,e1,e2,e4,e7,e8,lN,-⟩:=Zej lM;rw[e1,e2,e4,e7,e8,lN];clear e1 e2 e4 e7 e8 lN lM;clear gj hc hM hF hI ae dt aQ hQ KB iH bF;conv=>arg 2;whnf
 go_wp2_with fail
 go_loopw [18,86] (λv i wr=>∃k,k<=n/\i=(vI k)/\Hid (kW W wr)/\Hid (Zz wr W.heap.size v ((vs.take k).map s.H.shown))) (λ_ i _=>n-(intOf i).toNat)
 case atStart=>exact⟨0,Yh _,rfl,lh (Y2 _ _),lh (Zz.nil _ _)⟩
 case round=>
  obtain⟨k,hk,rfl,Y,HT⟩:=hrel;by_cases bX:k<n
  .obtain⟨u,hu⟩:∃u,vs[k]? =some u:=⟨_,Y6 PU⟩
   have jY:=oV.o u (Yd hu);obtain⟨gv,sR,fL⟩:=pG.o k u hu;subst sR;have nw:=λ(m:kV) (hW:kW W m)=>Zq1 wh.o (HM.o.below hW) HI.o u jY;have dP:(vs.take (k+1)).map s.H.shown=(vs.take k).map s.H.shown++[s.H.shown u]:=by rw[List.take_add_one,hu];simp
   obtain⟨tx,bc⟩:=zX (s.H.shown u)
   rw[<-bc]at nw dP;obtain⟨uk,un,us⟩:=u;obtain⟨b0,b1,b2⟩:=fL wr Y.o;have Z:=Z1 wr (.cells #[vI uk,vI un,.string us] 56);obtain⟨bP,aN,yy⟩:=ds (show(wr.alloc (.cells #[vI uk,vI un,.string us] 56)).heap[wr.heap.size]?=some (.cells #[vI uk,vI un,.string us] 56 (0,0))from Yq wr _) Z dP;simp only[LVal.agg]at nw;have GJ:=lh nw;have KD:=lh (show((vs.take k).map s.H.shown).length=k by rw[Ym,List.length_take];have:=HN.o;omega);simp only at b0 b1 b2
   clear hu jY fL nw dP bc Z;go_wp2_with fail
   obtain⟨W2,gF⟩:=zX (wr.alloc (.cells #[vI uk,vI un,.string us] 56))
   have wH:=bP.o;have Z:=aN.o;rw[<-gF]at wH Z ⊢;obtain⟨O,ux⟩:=zX wr.heap.size
   rw[<-ux]at wH ⊢;have fc:=zT Y Z;have Dx:=lh (HT.o.bel Z);have lJ:O<W2.heap.size:=(Y1.1 wH).1
   have HY:=lh (show∀m,kW W2 m->vC m w.heap.size 0 (vP C.mb)/\vC m O 0 (vI uk)/\vC m O 1 (vI un)/\vC m O 2 (.string us)from
    λm f=>⟨KC.o m (fc.o.trans (f.mono fc.o.size)),(f.cell (p:=⟨O,0,none⟩) lJ).trans Ry,(f.cell (p:=⟨O,1,none⟩) lJ).trans Ry,(f.cell (p:=⟨O,2,none⟩) lJ).trans Ry⟩)
   clear wH Z bP aN lJ gF ux b0 b1 b2;refine Z9 [(true,0),(true,1),(true,2),(true,3),(true,4),(false,5),(false,6)] [7,8] (λW=>vC W w.heap.size 0 (vP C.mb)/\vC W O 0 (vI uk)/\vC W O 1 (vI un)/\vC W O 2 (.string us)) Pz Pz (λc a d v w h=>fA.o c a d v w h) (HY.o _ (Zd _)) (λbq=>?_);refine f8 ?_;intro K hK;refine(GJ.o _ (fc.o.trans ((Zd _).mono fc.o.size))).mono ?_;rintro e F⟨rfl,J⟩
   have I:=(Zd W2).trans (J.mono (Y0 _));refine hK _ _ (HY.o _ I) ?_;clear hK K;have lQ:=lh I;have mp:=lh (Dx.o.bel I);have U:=zT fc I;clear J I;refine Ze (λK hK=>?_);go_simp
   refine hK _ _ (HY.o _ (lQ.o.trans ((Z1 _ _).mono lQ.o.size))) ?_;clear hK K;refine Z0 ?_;have dQ:=lh (show F.ownsRow W.heap.size 9 1 u18 k (((vs.take k).map s.H.shown).map Value.string) by have h:=mp.o;unfold Zz at h;rwa[KD.o]at h)
   refine wpList_append_lies _ rfl (.tmp 90) (.tmp 96) 27 rfl W.heap.size 9 i0 (.string ByteArray.empty) 1 16 underlying27 hi aC bo bQ rfl Py u18 k (((vs.take k).map s.H.shown).map Value.string) rfl (dQ.o.alloc _) ⟨F.heap.size,0,none⟩ 1 1 [.string tx] rfl rfl (λj u hu=>cell_one_new F _ _ j u hu) PH Py PA Px (by have:=U.o.size;simp;omega) (F.heap.size+1) PE ?_;intro g cap W4 aS aB bS GK;have HG:=lh aB;have HW:=lh aS;clear aB aS bS GK
   simp only[Act.put,zA,zB,zC];go_wp2_with fail
   go_roundw
   case rel=>
    refine⟨k+1,by omega,by go_num,lh ?_,lh ?_⟩;·exact(U.o.trans ((Z1 F _).mono U.o.size)).grown HG.o (by have:=U.o.size;simp;omega) λj hj=>(Y9 dQ.o j hj).1
    .rw[yy.o];unfold Zz;rw[Yi,KD.o,Yl];exact HW.o
   case measure=>simp[intOf];omega
  .have aR:k=n:=by omega
   subst aR;have hT:=HT.o;rw[Ye Qm]at hT;have Cf:=λ(m:kV) (hW:kW wr m)=>Zki (hT.bel hW) (by rw[Ym,<-HN.o];exact hl) xq.o;obtain⟨jt,zk⟩:=zX (U1 (vs.map s.H.shown))
   rw[<-zk]at Cf;have NZ:=lh Cf;have am:RR=(({s with log:=s.log++[jt]}:MSt),.ok LVal.zero):=by rw[fd.o,zk]
   have bA:=lh am;have wI:=HM.o.below Y.o;obtain⟨rv,sO⟩:=zX (M1.row 0)
   have eR:=wI.rows 0 Py;have hr2:=wI.rcell 0 Py;rw[<-sO]at eR hr2;obtain⟨xs,cD⟩:=zX (nE s M1.cl 0)
   obtain⟨ln,ia⟩:=zX s.log.length
   have Cb:ln<=1000000000:=by rw[ia];have:=HI.o.szL;have:=HI.o.steps;omega
   rw[<-cD,show kr s M1.cl 0=ln from ia.symm]at eR;simp only[nc,nF,rowO]at eR hr2;have lU:=wI.mbLt;have dV:rv.ownBlock≠some C.mb:=λe=>wI.rowNe (i:=0) Py (by rw[<-sO];exact e);have bu:=wI.fz 2;have l0:=KC.o wr Y.o;have N0:w.heap.size<wr.heap.size:=by have h1:=X.o.lt;have h2:=HF.o.size;have h3:=Y.o.size;omega
   have N1:rv.ownBlock≠some w.heap.size:=λe=>by
    have h1:=((mJ.o.fr HF.o).bel Y.o).free;exact h1 (.inr ⟨0,by decide,by rw[<-sO];exact e⟩)
   obtain⟨oP,KE,oQ,bM,GL,yP⟩:=gq eR sO cD ia wI (HF.o.trans (.of_below Y.o));clear hT Cf zk am wI eR sO cD ia;go_wp2_with fail
   refine Z9 [(true,0),(true,1),(true,2),(true,3),(true,4),(true,5),(true,6),(false,7),(false,8),(false,9)] [10,11,12,13] (λW=>vC W w.heap.size 0 (vP C.mb)/\vC W C.mb 2 rv) Pz Pz (λc a d v w h=>fA.o c a d v w h) (⟨l0,hr2⟩) (λbq=>?_);refine f8 ?_;intro K hK;refine(NZ.o _ (Zd _)).mono ?_;rintro e F⟨rfl,J⟩;have I:=(Zd wr).trans (J.mono (Y0 _));have e0:=(I.cell (p:=⟨w.heap.size,0,none⟩) N0).trans l0
   have e2:=(I.cell (p:=⟨C.mb,2,none⟩) lU).trans hr2;refine hK _ _ ⟨e0,e2⟩ ?_;clear hK K;have cF:=I.size;have de:=Z3 oP.o λg hg=>I.block g (Y9 oP.o g hg).2;have dQ:=lh de;have lQ:=lh I;have N6:F.frozen? ⟨C.mb,2,none⟩=false:=(Yn (I.block _ lU)).trans bu;clear J I de;refine Ze (λK hK=>?_);go_simp
   have Bn:w.heap.size<F.heap.size:=Px
   have wJ:C.mb<F.heap.size:=Px
   refine hK _ _ ⟨(Zc Bn).trans e0,(Zc wJ).trans e2⟩ ?_;clear hK K;refine Ze (λK hK=>?_);refine step_append_lies _ PM (.tmp 104) (.tmp 107) 27 PM 0 9 i0 (.string ByteArray.empty) 1 16 underlying27 hi aC bo bQ rfl Py rv ln xs PM (dQ.o.alloc _) ⟨F.heap.size,0,none⟩ 1 1 [.string jt] PM rfl (λj u hu=>cell_one_new F _ _ j u hu) PH Py PA Px Px (F.heap.size+1) PE ?_;intro gg cap W5 lO gH qA Bo
   have wK:∀b o,b<F.heap.size->rv.ownBlock≠some b->W5.cell? ⟨b,o,none⟩=F.cell? ⟨b,o,none⟩:=λb o ah aA=>(gH.cell_far ⟨b,o,none⟩ PB (λe=>aA e.symm)).trans (Zc ah);have Pn:W5.frozen? ⟨C.mb,2,none⟩=false:=(gH.frozen_far ⟨C.mb,2,none⟩ PB (λe=>dV e.symm)).trans ((TG wJ).trans N6);have e5:=(wK _ 2 wJ dV).trans e2;refine hK _ _ ⟨(wK _ 0 Bn N1).trans e0,e5⟩ ?_;clear hK K;simp only[Act.put,zA,zB,zC];obtain⟨HG,HW,iU,kG⟩:=en gH lO qA Bo
   clear gH lO qA Bo wK;refine Z0 ?_;have hg:(M1.row 0).ownBlock=some gg\/wr.heap.size<=gg:=by
    rw[<-KE.o];exact VP
   obtain⟨s3,mY⟩:∃s3:MSt,s3={s with log:=s.log++[jt]}:=⟨_,rfl⟩
   have ae:W5.ownsRow 0 (nc 0) (nF 0) (.slice (some ⟨gg,0,none⟩) (ln+1) cap) (kr s3 M1.cl 0) (nE s3 M1.cl 0):=by
    have hw:=HW.o;rw[oQ.o]at hw;rw[mY];show W5.ownsRow 0 9 1 _ (s.log++[jt]).length ((s.log++[jt]).map Value.string);rw[Yi,Yl,<-bM.o];exact hw
   obtain⟨M2,aM,ap⟩:=GL.o.push (s':=s3) (cl':=M1.cl) Py (lQ.o.trans ((Z1 F (.cells #[.string jt] 9)).mono lQ.o.size)) (KE.o▸HG.o) hg kG.o ae
    (fun j hj aG => by rw [mY]; match j, hj with
     |0,_=>exact absurd rfl aG
     |1,_=>exact⟨rfl,rfl⟩
     |2,_=>exact⟨rfl,rfl⟩
     |3,_=>exact⟨rfl,rfl⟩) (by rw[mY]) (by rw[mY];rfl) (by rw[mY];exact GL.o.clos) GL.o.trees
   have aM:MAt C M2 (W5.setCell ⟨C.mb,2,none⟩ (.slice (some ⟨gg,0,none⟩) (ln+1) cap)) s3:=aM;have ap:MFr M1 M2 wr (W5.setCell ⟨C.mb,2,none⟩ (.slice (some ⟨gg,0,none⟩) (ln+1) cap)):=ap;obtain⟨W6,Db⟩:=zX (W5.setCell ⟨C.mb,2,none⟩ (.slice (some ⟨gg,0,none⟩) (ln+1) cap))
   rw[<-Db]at aM ap;obtain⟨tI,AG,mi⟩:=ds Db aM (yP.o.trans ap);have jC:RR=(s3,.ok LVal.zero):=by rw[bA.o,mY]
   have N7:=lh jC;obtain⟨q0,q1,q2,z0,z1,z2⟩:=(X.o.fr mi.o).six;rw[Db]at q0 q1 q2 z0 z1 z2;clear aM ap Db jC mY ae hg;go_wp2_with fail
   simp only[<-tI.o]at q0 q1 q2 ⊢;refine NY.o (.tuple #[.agg #[vI 0,vI 0,.string ⟨#[]⟩],.nilIface]) _ _ ?_ rfl ?_;·exact UI
   .rw[N7.o];exact cK.fine X.o HBZ.o AG.o mi.o
end
section
variable {C:RCtx}{M M1:MRep}{w z W:kV}{s:MSt}{B:Nat}{a x0:ATree}{l:List ATree}{V:VF}{D:DF}{b sc:Int}{fr:Frm}{d:Nat}{A:Act}{K:Act->kV->Prop}{vs:List LVal}{v:Value}{code:Int}{RR:MSt×Except Er LVal}
theorem Acv:dT [1,1,1,1,1,1,1,0]=Code.block 2 (dT [1,1,1,1,1,1,1,0,0]):=by kernel_rfl
theorem Acr:dT [1,1,1,1,1,1,1,0,0]=Code.seq (dT [1,1,1,1,1,1,1,0,0,0]) (Code.cond (.tmp 76) (dT [1,1,1,1,1,1,1,0,0,1,0]) (dT [1,1,1,1,1,1,1,0,0,1,1])):=by kernel_rfl
theorem AcG:dT [1,1,1,1,1,1,1,0,0,1,1]=Code.seq (dT [1,1,1,1,1,1,1,0,0,1,1,0]) (Code.cond (.tmp 81) (dT [1,1,1,1,1,1,1,0,0,1,1,1,0]) (dT [1,1,1,1,1,1,1,0,0,1,1,1,1])):=by kernel_rfl
theorem Zs3:dT []=Code.seq (dT [0]) (Code.seq (dT [1,0]) (Code.seq (dT [1,1,0]) (Code.seq (dT [1,1,1,0]) (Code.seq (dT [1,1,1,1,0]) (Code.seq (dT [1,1,1,1,1,0]) (Code.seq (dT [1,1,1,1,1,1,0]) (Code.seq (dT [1,1,1,1,1,1,1,0]) (dT [1,1,1,1,1,1,1,1])))))))):=by kernel_rfl
def Ze3{D:DF}{n:NT}:TE D n sc fr code vs s =
 if code=0 then(s,.error (.thr (.say wW)))
 else if code=1 then(({s with log:=s.log++[U1 (vs.map s.H.shown)]}:MSt),.ok LVal.zero)
 else if code=2/\vs=[]then(s,.ok LVal.zero)
 else if code=2/\(vs.headD LVal.zero).kind≠4 then(s,.ok (vs.headD LVal.zero))
 else if s.calls=40 then(s,.error (.thr (.say T3)))
 else T4 s (T9 D n sc fr code vs {s with calls:=s.calls+1}):=by
 unfold TE;split;·rfl
 split;·rfl
 split;·rfl
 split;·rfl
 split<;>rfl
def Zqe(X:K8 C.w0)(hc:CaC C M w z a x0 l B fr)(I:MAt C M1 W s)(J:MFr M M1 z W)(hI:Inv s (d+1))(ae:∃wA,VRow C M1 wA W v vs)(Y:∀u∈vs,VQ s u)(hl:vs.length<=1500)
 (g:RR=TE D (a.nt C.N) sc fr code vs s)(lM:FrA 214 (T5 C w a sc [(12,v),(17,vI code)]) [] A)
 (HK:∀A',FrA 214 (T5 C w a sc [(12,v),(17,vI code)]) [] A'->code≠0->code≠1->(code=2->∃u l',vs=u::l')->(RR=if s.calls=40 then(s,.error (.thr (.say T3)))else T4 s (T9 D (a.nt C.N) sc fr code vs {s with calls:=s.calls+1}))->K A' W) :
 (dT [1,1,1,1,1,1,1,0]).wp Tryz.prog (Exit.then K (Zny Tryz.prog f133 (λe w'=>cK C M w RR e w'))) A W:=by
 rw[Ze3]at g;obtain⟨wA,O⟩:=ae;obtain⟨pv,cv,Z,jN,iM,iH⟩:=O.form;obtain⟨n,p⟩:=zX vs.length
 have U:v=.slice pv n cv:=by rw[p];exact Z
 have mZ:VRow C M1 wA W (.slice pv n cv) vs:=U▸O;rw[<-p]at jN hl;obtain⟨HLR,HBZ,HM,HF,m,pR⟩:=gq hc.lr hc.below I J HK p;rw[U]at lM m;unfold T5 at lM;obtain⟨xt,rfl,e1,e2,e4,e7,e8,lN,Bh,-⟩:=Zej lM;rw[e1,e2,e4,e7,e8,lN,Bh];clear e1 e2 e4 e7 e8 lN Bh lM;by_cases F:code=0
 .rw[Y5 F]at g;have fd:=lh g;have jp:=Sf I wW;simp only[wW]at jp;have uN:=lh jp;subst F;clear X hc I J hI O Y hl g HK Z U jp iH p mZ m;conv=>arg 2;whnf
  go_wp2_with fail
  refine uN.o.mono ?_;rintro e w5⟨o6,rfl,rm,eM⟩;have xw:=lh (show ax C M1 w5 (.thr (.say wW)) o6 from rm);exact AaP
 rw[Y3 F]at g;by_cases h1:code=1
 .rw[Y5 h1]at g;have fd:=lh g;have Cq:=lh (λ(A':Act) (Q:Exit->Act->kV->Prop)=>Zpj (A:=A') (Q:=Q) (wA:=wA) (sc:=sc) X hc I J hI mZ Y (by rw[<-p];exact hl) g);subst h1;clear X hc I J hI O Y hl g HK Z U iH p mZ m F;rw[Acv];refine wp_block ?_;rw[Acr];refine dq ?_;intro K HK;go_wp2;refine HK.o _ _ ?_;clear HK K;refine wp_cond_false PM ?_;rw[AcG];refine dq ?_;intro K HK;go_wp2;refine HK.o _ _ ?_;clear HK;refine wp_cond_true PM ?_
  refine Cq.o _ _ ⟨rfl,⟨rfl,rfl,rfl,rfl,rfl,rfl,trivial⟩,rfl⟩ (λ_ _ d _ _ h=>False.elim h) (λy a' w' g1 g2 g3=>?_);show Go.Leaves _ _ _ _ a'.defers .returning w';rw[g2];exact⟨y,g1,g3⟩
 rw[Y3 h1]at g;have ig:=hI;by_cases h2:code=2
 .subst h2;rcases rG:vs with _|⟨u,l'⟩
  .rw[rG]at g;have am:RR=(s,.ok LVal.zero):=by rw[g,Y5 ⟨rfl,rfl⟩]
   have fd:=lh am;have hn0:n=0:=by rw[p,rG];rfl
   subst hn0;obtain⟨q0,q1,q2,z0,z1,z2⟩:=(HLR.o.fr HF.o).six;clear X hc I J hI O Y hl g HK Z U iH p mZ m F h1 am ig rG;conv=>arg 2;whnf
   go_wp2_with fail
   refine⟨.tuple #[.agg #[vI 0,vI 0,.string ⟨#[]⟩],.nilIface],?_,?_⟩;·exact UI
   .rw[fd.o];exact cK.fine HLR.o HBZ.o HM.o HF.o
  .have iR:0<n:=by rw[p,rG];simp
   have cG:(n==0)=false:=PB
   have Po:decide (n=0)=false:=PB
   rw[rG]at g;rw[Y3 (λh=>by cases h.2)]at g;simp only[List.headD_cons]at g;obtain⟨gv,sR,-,-,a0,a1,a2⟩:=iH 0 u (by rw[rG];rfl);subst sR;rw[Nat.zero_mul]at a0 a1 a2;simp only[Nat.zero_add]at a1 a2;by_cases gK:u.kind=4
   .rw[Y3 (λh=>h.2 gK)]at g;have fd:=lh g;rw[gK]at a0;have KF:=lh rG;clear X hc I J hI O Y hl g HK Z U iH p mZ F h1 ig rG;conv=>arg 2;whnf
    go_wp2_with fail
    exact m.o _ ⟨rfl,⟨rfl,rfl,rfl,rfl,rfl,rfl,rfl,trivial⟩,rfl⟩ Py Py (λ_=>⟨u,l',KF.o⟩) (by rw[fd.o,KF.o])
   .have am:RR=(s,.ok u):=by rw[g,Y5 ⟨by trivial,gK⟩]
    have fd:=lh am;have sX:(u.kind==4)=false:=by simp;exact gK
    have KG:decide (u.kind=4)=false:=by simp;exact gK
    obtain⟨uk,un,ut⟩:=u;simp only at a0 a1 a2 gK sX KG;obtain⟨q0,q1,q2,z0,z1,z2⟩:=(HLR.o.fr HF.o).six;clear X hc I J hI O Y hl g HK Z U iH p mZ m F h1 ig rG am;conv=>arg 2;whnf
    go_wp2_with fail
    refine⟨.tuple #[.agg #[vI uk,vI un,.string ut],.nilIface],?_,?_⟩;·exact UI
    .rw[fd.o];exact cK.fine HLR.o HBZ.o HM.o HF.o
 rw[Y3 (λh=>h2 h.1),Y3 (λh=>h2 h.1)]at g;have fd:=lh g;have d0:(code==0)=false:=by simp;exact F
 have LS:decide (code=0)=false:=by simp;exact F
 have d1:(code==1)=false:=by simp;exact h1
 have Il:decide (code=1)=false:=by simp;exact h1
 have d2:(code==2)=false:=by simp;exact h2
 have Ci:decide (code=2)=false:=by simp;exact h2
 obtain⟨j9,tM,Ap⟩:=ds F h1 h2;clear X hc I J hI O Y hl g HK Z U iH p mZ F h1 h2 ig;conv=>arg 2;whnf
 go_wp2_with fail
 exact m.o _ ⟨rfl,⟨rfl,rfl,rfl,rfl,rfl,rfl,rfl,trivial⟩,rfl⟩ j9.o tM.o (λh=>absurd h Ap.o) fd.o
def Zog(gj:K8 C.w0)(hW:Words C.w0)(hL:Gv C.w0 C.w0.heap.size)(hC:C.Ok)(cj:zm C V b)(hV:VH V b)(cT:G8 C D b)(hD:DH D b)(h:MAt C M w s)(hI:Inv s (d+17000))(hA:FAt s sc fr)(hb:b<=s.steps)(hs:s.steps<=20000)(ha:TreeAt w B a)(hf:a.free M)(co:a.kids=x0::l)
 (w0:(x0.nt C.N).wf .v)(m0:(x0.nt C.N).tree.many<=1500)(hl:l.length<=1500)(fj:∀k∈l,(k.nt C.N).wf .v/\(k.nt C.N).tree.many<=1500) :
 kC 133 #[vP C.mb,a.ptr,vI sc,.agg #[.bool fr.strict,vI fr.vars]] w λe w'=>cK C M w (UO V D (a.nt C.N) sc fr s) e w':=by
 obtain⟨RR,u⟩:=zX (UO V D (a.nt C.N) sc fr s)
 rw[<-u];unfold UO at u;have e0:(a.nt C.N).kid 0=x0.nt C.N:=wX QE;have e1:(a.nt C.N).kids.tail=l.map (ATree.nt C.N):=by rw[Zu,AC,co];rfl
 rw[e0,e1]at u;obtain⟨z,hz,I,lm,lf,lr⟩:=Zwp h fr;have aD:=h.below I;have hc:CaC C M w z a x0 l B fr:=⟨hC,h.old.size,I,lm,lf,lr,ha.bel I,hf,co⟩
 obtain⟨kg,kc,cC,aR,hk⟩:=hc.two;obtain⟨q,hq⟩:=zX l.length
 rw[<-hq]at cC hk;have bE:=lh (cj.from aD hI hA hb hs w0 m0 (hc.kid (Yv)).1 (hc.kid (Yv)).2);have an:=(hV (x0.nt C.N) sc fr s _ w0 m0 hI hA hb hs).1;obtain⟨r1,bz⟩:=zX (V (x0.nt C.N) sc fr s)
 unfold Zx at u;rw[<-bz]at bE an u;obtain⟨i8,bI,HR⟩:=ds hc an u;have HS:=lh (show∀g M',MFr M M' z g->vC g w.heap.size 0 (vP C.mb)/\vC g (w.heap.size+1) 0 (.bool fr.strict)/\vC g (w.heap.size+1) 1 (vI fr.vars)/\vC g a.b 3 (.slice (some ⟨kg,0,none⟩) (q+1) kc)/\vC g kg 0 (vP x0.b)from λg M' f=>by
  obtain⟨g0,g1,g2,g3,g4,-⟩:=hk M' g f;exact⟨g0,g1,g2,g3,g4⟩)
 obtain⟨HLR,HBZ,HM,HO,HE,gZ,HB,oV,HV,iP,HD,jy⟩:=oh lr I aD h.old.size I.size hA (Yu hb hs) cj hV cT hD fj;obtain⟨zo,jD,HZ,Pp⟩:=en hl (Yu gj (Yu hW hL)) hz lm;have hn0:0<q+1:=Px
 clear gj hW hL hC cj hV cT hD h hI hA hb hs ha hf co w0 m0 hl fj e0 e1 hz I lm lf lr aD hc hk hq an bz u;unfold ATree.ptr;refine Zbr (c:=dT []) func133 Zvc ?_;simp only[ntmps133,List.size_toArray,List.length_cons,List.length_nil,Nat.reduceAdd,Nat.reduceSub,Array.replicate_succ,Array.replicate_zero,List.push_toArray,List.append_toArray,List.nil_append,List.cons_append];rw[Zs3];refine dq ?_;intro K HK;go_wp2;rw[<-HZ.o];refine HK.o _ _ ?_;clear HK K;refine dq ?_;intro K HK
 refine Z2b (.take 0 (.take 1 (.take 2 (.take 3 (.take 4 (.take 5 (.take 6 (.take 7 (.take 8 (.two 9 (.take 10 (.take 11 (.take 12 (.go 13 (.go 14 (.go 15 (.nil))))))) 13 (.go 9 (.take 10 (.take 11 (.take 12 (.go 14 (.go 15 (.nil))))))))))))))))) 14 (λW=>vC W w.heap.size 0 (vP C.mb)/\vC W (w.heap.size+1) 0 (.bool fr.strict)/\vC W (w.heap.size+1) 1 (vI fr.vars)/\vC W a.b 3 (.slice (some ⟨kg,0,none⟩) (q+1) kc)/\vC W kg 0 (vP x0.b)) Pz Pz (λ_ _ d _ _ h=>False.elim h) (HS.o _ _ (MFr.drew (.refl _ _))) ?_
 refine qa ?_;refine Zr ?_;apply Sx (H:=ru C w M z r1);·exact SU HS bE HE.o HO.o
 .exact Oz HS bE HM HE.o HO.o
 intro W1 p1 M1 J O t1 bL y;refine HK.o _ _ ?_;clear HK K;obtain⟨bw,bT,jS⟩:=ds y.1.2.1 y.1.1 y.2;obtain⟨q0,q1,q2,z0,z1,z2⟩:=(HLR.o.fr bw.o).six;obtain⟨s1,jm⟩:=r1;cases jm with
 |error U=>
   have he:ax C M1 W1 U bL:=y.1.2.2;have F:RR=(s1,.error U):=HR.o;have fd:=lh F;obtain⟨T1,P1,rfl,hP⟩:=he.ne;have ed:=lh he;clear y he HR F;refine po ?_;intro K HK;clear HK;conv=>arg 2;whnf
   go_wp2_with fail
   refine⟨.tuple #[.agg #[vI 0,vI 0,.string ⟨#[]⟩],.iface T1 (.pointer P1)],?_,?_⟩;·exact UI
   .rw[fd.o];exact cK.err HLR.o HBZ.o bT.o bw.o ed.o
 |ok v1=>
   obtain⟨rfl,rfl⟩:v1=⟨J,O,t1⟩/\bL=.nilIface:=y.1.2.2;have dz:RR=Zx (Sv V sc fr (l.map (ATree.nt C.N))) (λargs s=>TE D (a.nt C.N) sc fr (codeOf s ⟨J,O,t1⟩) args s) s1:=HR.o;obtain⟨i1,U,c1,em,i2⟩:=bI.o;obtain⟨eC,lg,dp,fY⟩:=en i1 U (Yu (show b<=s1.steps from Int.le_trans HB.o.1 U.steps) i2) dz;clear HR y dz i1 U c1 em i2 q0 q1 q2 z0 z1 z2;refine dq ?_;intro K HK;go_wp2;refine HK.o _ _ ?_;clear HK K;refine dq ?_;intro K HK;go_wp2;refine HK.o _ _ ?_;clear HK K;refine po ?_;intro K HK
   refine Zur (d:=d+17000) oV.o HV.o i8.o bT.o bw.o eC.o (gZ.o.ext lg.o) dp.o.1 dp.o.2 jy.o zo.o fY.o (v10:=(vP p1)) ⟨rfl,⟨rfl,rfl,rfl,rfl,rfl,rfl,rfl,trivial⟩,rfl⟩ (λA2 W2 M2 s2 v2 rA Bq aM ap nQ Br xd GM eu Bt Bu F=>?_);refine HK.o _ _ ?_;clear HK K;obtain⟨gS,ba,bR,oN,o5,aN⟩:=gq (jS.o.fr ap) (bw.o.trans ap) aM xd ((gZ.o.ext lg.o).ext GM) (Yu (show b<=s2.steps from Int.le_trans dp.o.1 GM.steps) eu)
   have GN:=lh (show∃wA,VRow C M2 wA W2 v2 rA from⟨_,nQ⟩);have Bv:=lh Bu;have ke:=lh (show rA.length<=1500 by rw[Br];exact zo.o);obtain⟨code,au⟩:=zX (codeOf s2 ⟨J,O,t1⟩)
   have F:RR=TE D (a.nt C.N) sc fr code rA s2:=by rw[F,au]
   have bA:=lh F;have Bj:=lh (show 0<=code/\code<3+s2.clos.length by
    rw[au];unfold codeOf;split;·exact Zn3 xd
    .omega)
   have Y:=au;unfold codeOf at Y;have gV:=(⟨_,nQ⟩:∃wA,VRow C M2 wA W2 v2 rA)
   obtain⟨pv,nv,Z,rfl⟩:∃pv nv Z,v2=.slice pv nv Z:=by
    obtain⟨pv,Z,h,-⟩:=nQ.form;exact⟨pv,_,Z,h⟩
   unfold T5 at Bq;obtain⟨xt,rfl,e1,e2,e4,e7,e8,gU,lN,-⟩:=Zej Bq;rw[e1,e2,e4,e7,e8,gU,lN];clear e1 e2 e4 e7 e8 gU lN Bq aM ap nQ Br xd GM eu Bt Bu F gV au;refine dq ?_;intro K HK;go_wp2;refine HK.o _ _ ?_;clear HK K;obtain⟨b0,b1,b2,-,-,-⟩:=gS.o.six
   have uy:=lh (show∀A3 W3,FrA 214 (T5 C w a sc [(12,.slice pv nv Z),(17,vI code)]) [] A3->kW W2 W3->(Code.seq (dT [1,1,1,1,1,1,1,0]) (dT [1,1,1,1,1,1,1,1])).wp Tryz.prog (Zny Tryz.prog f133 (λe w'=>cK C M w RR e w')) A3 W3 from λA3 W3 ue p=>by
    refine wp_seq_k (λK hK=>?_);have Bx:∃wA,VRow C M2 wA W3 (.slice pv nv Z) rA:=by
     obtain⟨wA,h⟩:=GN.o;exact⟨wA,h.fr (.of_below p)⟩
    refine Zqe (D:=D) (d:=d+16999) jD.o.1 i8.o (bR.o.below p) (ba.o.trans (.of_below p)) oN.o Bx Bv.o ke.o bA.o ue (λA4 uf h0 h1 h2 eK=>?_);refine hK _ _ ?_;exact Ztj (d:=d) jD.o.1 jD.o.2.1 jD.o.2.2 iP.o HD.o i8.o (bR.o.below p) (ba.o.trans (.of_below p)) oN.o o5.o aN.o.1 aN.o.2 Bx Bv.o ke.o ⟨Bj.o.1,Bj.o.2,h0,h1⟩ h2 eK uf)
   refine dq ?_;intro K HK;by_cases sX:J=5
   .subst sX;rw[Y5 rfl]at Y;have GO:=Zz1 bR.o.drew O;rw[<-Y]at GO;have qy:=lh GO
    have C1:=lh (show∀g M',MFr M2 M' W2 g->vC g w.heap.size 0 (vP C.mb)/\vC g p1 1 (vI O)from
     λg M' f=>⟨(HS.o g M' (ba.o.trans f)).1,(gS.o.fr f).cell rfl⟩)
    clear GO Y;go_wp2_with fail
    refine Z9 [(true,0),(true,1),(true,2),(true,3),(true,4)] [5,6] (λW=>vC W w.heap.size 0 (vP C.mb)/\vC W p1 1 (vI O)) Pz Pz (λ_ _ d _ _ h=>False.elim h) (C1.o _ _ (.drew (.refl _ _))) (λbq=>?_);refine oK ?_;refine Z0 ?_;go_wp2_with fail
    refine qy.o.mono ?_;rintro e W5⟨rfl,KH⟩;rw[KH];clear KH W5;go_wp2_with fail
    refine HK.o _ _ ?_;exact uy.o _ _ ⟨rfl,⟨rfl,rfl,rfl,rfl,rfl,rfl,rfl,trivial⟩,rfl⟩ (Zd _)
   .rw[Y3 sX]at Y;subst Y;have KG:(J==5)=false:=by simp;exact sX
    have Pq:decide (J=5)=false:=by simp;exact sX
    go_wp2_with fail
    refine HK.o _ _ ?_;exact uy.o _ _ ⟨rfl,⟨rfl,rfl,rfl,rfl,rfl,rfl,rfl,trivial⟩,rfl⟩ (Y2 _ _)
end
section
variable {C:RCtx}{M M':MRep}{w w':kV}{s s':MSt}{B:Nat}{a:ATree}{V:VF}{D:DF}{b:Int}{sc:Int}{fr:Frm}{d:Nat}
def Zud(hC:C.Ok)(h:MAt C M w s)(hI:Inv s d)(ha:TreeAt w B a)(hf:a.free M)(hs:s.steps=20000){g:Nat} :
 kC 46 #[vP C.mb,a.ptr,vI sc,.agg #[.bool fr.strict,vI fr.vars]] w λe w'=>je C M w (yk V D g (a.nt C.N) sc fr s) e w':=by
 refine LX ?_;intro s1 aF bN hst jx aY dh di dj z0 aC;rw[<-aC]at aY dh di dj;refine qF ?_;intro cw f5 y5 aD aW;rw[<-aF]at aD;refine qI ?_;intro z hz;rw[<-hz]at aD aW;refine Of ?_;intro eG aI bu lf lr ln g5 c0;rw[aC]at f5 y5;rw[hz,aC]at g5 c0;have m:yk V D g (a.nt C.N) sc fr s=(s1,.error .stop):=by
  unfold yk tm;rw[Y5 Px,aF];rfl
 rw[m];refine Zx4 ?_;intro HZ cV dv HLR HFz bM BQ HM m0 m1 m2 q0 q1 q2 z0 z1 z2;clear hz aC aY cw aD aW eG aI bu dh di dj lf lr ln ha hf h hI aF m hs c0;unfold ATree.ptr;go_enter func46,ntmps46
 go_wp2_with fail
 rw[<-HZ.o];clear f5 y5 g5;unfold pY at cV;refine ow [(true,0),(true,1),(true,2),(false,3)] [4] (λW=>vC W (w.heap.size+1+1) 0 (vI 0)/\vC W (w.heap.size+1+1) 1 (vI 0)/\vC W (w.heap.size+1+1) 2 (.string ⟨#[]⟩)/\W.cell? ⟨0,0,none⟩=some (.iface 241 (.pointer (some C.eb)))) ⟨m0,m1,m2,cV⟩ (λy=>?_);refine f8 ?_;intro K hK;refine XB ?_;intro bj
 have p:=je.err' (b:=false) (k:=0) (n:=0) (t:=⟨#[]⟩) HLR.o HFz.o HM.o.drew (.drew (.refl _ _)) (show ax C M z.drew .stop (pY C.eb)from rfl);refine hK _ _ ⟨bj.cell rfl,bj.cell rfl,bj.cell rfl,?_⟩ ?_;·exact AaE
 clear hK K bj;have u:=lh p;clear p;refine Z0 ?_;go_wp2;refine Yp (v:=.tuple #[.bool false,.agg #[vI 0,vI 0,.string ⟨#[]⟩],.iface 241 (.pointer (some C.eb))]) ?_ rfl ?_;·exact yC
 .exact u.o
def AaD(cj:zm C V b)(hV:VH V b)(h:MAt C M w s)(hI:Inv s 0)(Z:d+1<=20000)(hA:FAt s sc fr)(hb:b<=s.steps+1)(hs:s.steps<20000)(ha:TreeAt w B a)(hf:a.free M){x y:ATree}(co:a.kids=[x,y])(wx:(x.nt C.N).wf .v)(wy:(y.nt C.N).wf .v)(mx:(x.nt C.N).tree.many<=1500)(my:(y.nt C.N).tree.many<=1500)(hk:a.kind=25\/a.kind=26) :
 kC 78 #[vP C.mb,a.ptr,vI sc,.agg #[.bool fr.strict,vI fr.vars]] w λe w'=>cK C M w (tm (v7 V D (a.nt C.N) sc fr) s) e w':=by
 refine LX ?_;intro s1 aF bN hst jx aY dh di dj z0 aC;rw[<-aC]at aY dh di dj;refine qF ?_;intro cw f5 y5 aD aW;rw[<-aF]at aD;refine qI ?_;intro z hz;rw[<-hz]at aD aW;refine Of ?_;intro eG aI bu lf lr ln g5 c0;rw[aC]at f5 y5;rw[hz,aC]at g5 c0;refine Su ?_;intro hR R aQ;rw[<-aQ];rw[<-aQ]at hR;clear aQ;refine SA ?_;intro dv HZ HLR bM dB HFz HM ft dW HO HE;refine U2 ?_;intro fK dI eu;have ah:b<=s1.steps:=Px
 have iW:s1.steps<=20000:=Px
 unfold v7 at hR;have g:¬a.kind=17/\¬a.kind=18/\¬(a.kind=19\/a.kind=20)/\¬a.kind=21/\¬a.kind=22/\¬a.kind=23/\¬a.kind=24:=Px
 rw[Zb,Y3 g.1,Y3 g.2.1,Y3 g.2.2.1,Y3 g.2.2.2.1,Y3 g.2.2.2.2.1,Y3 g.2.2.2.2.2.1,Y3 g.2.2.2.2.2.2,Y5 hk]at hR;obtain⟨kg,kc,c3,J,g,bO,aX,eZ⟩:=aI.row bu Qe;rw[co]at c3 J bO;refine Zw7 ?_;intro dX ex k0 k1;simp only[List.length_cons,List.length_nil]at c3 J;have O:(a.nt C.N).kid 0=x.nt C.N:=wX QE;have U:(a.nt C.N).kid 1=y.nt C.N:=wX QE;rw[O,U]at hR;refine AaF ?_;intro aq r1 bz bE an;unfold Zx at hR;rw[<-bz]at bE an hR;refine Xv ?_
 intro bI HR HS;obtain⟨gZ,HB,pF,oU,oV,HV⟩:=gq (hA.ext dI) ah (aI.kid ex) (bu.kid ex) cj hV;clear hz aC aY cw aD aW eG aI bu dh di dj lf lr ln ha hf h hI aF fK dI eu ah iW aq c3 k0 k1 bO co O U bz an hR hA cj hV dX ex g;unfold ATree.ptr;rcases hk with hk|hk
 all_goals
  rw[hk]at c0 HS HR;go_enter func78,ntmps78
  go_wp2_with fail
  rw[<-HZ.o];clear f5 y5 g5 c0
 .skip
  refine vy (.take 0 (.take 1 (.take 2 (.take 3 (.take 4 (.take 5 (.take 6 (.take 7 (.take 8 (.two 9 (.take 10 (.take 11 (.take 12 (.go 13 (.go 14 (.go 15 (.nil))))))) 13 (.go 9 (.take 10 (.take 11 (.take 12 (.go 14 (.go 15 (.nil))))))))))))))))) 14 (λW=>vC W w.heap.size 0 (.bool fr.strict)/\vC W w.heap.size 1 (vI fr.vars)/\vC W a.b 0 (vI 25)/\vC W a.b 3 (.slice (some ⟨kg,0,none⟩) 2 kc)/\vC W kg 0 (vP x.b)/\vC W kg 1 (vP y.b)) (HS.o _ _ (MFr.drew (.refl _ _))) ?_
  refine qa ?_;refine Zr ?_;apply Sx (H:=ru C w M z r1);·exact SU HS bE HE.o HO.o
  .exact Oz HS bE HM HE.o HO.o
  intro W1 p1 M1 k1 n1 t1 bL ah
  have dp:=lh (show∀W M',MFr M1 M' W1 W->vC W p1 0 (vI k1)/\vC W p1 1 (vI n1)/\vC W p1 2 (.string t1)/\vC W a.b 0 (vI 25)from
   λW M' f=>⟨(ah.2.fr f).cell rfl,(ah.2.fr f).cell rfl,(ah.2.fr f).cell rfl,(HS.o W M' (ah.1.2.1.trans f)).2.2.1⟩)
  obtain⟨s2,q1⟩:=r1;cases q1 with
  |error x1=>
    refine Xb ?_;intro he av hR;simp only at hR;subst hR;obtain⟨T1,P1,rfl,Y⟩:=he.ne;have ed:=lh he;have bw:=lh av.o.1.2.1;obtain⟨b0,b1,b2,-⟩:=dp.o W1 M1 (.refl _ _);clear ah he HR;go_wp2_with fail
    refine XH ?_;exact Abr
  |ok F=>
    obtain⟨rfl,rfl⟩:F=⟨k1,n1,t1⟩/\bL=.nilIface:=ah.1.2.2;refine YB ?_;intro i1 x1 em i2 F1 dY ty hst r2 hr2 bP bC;rw[<-hr2]at bP bC;have p:=HR.o;simp only at p;have hR:R=if(⟨k1,n1,t1⟩:LVal).true=((25:Int)==25:Bool)then(s2,.ok ⟨k1,n1,t1⟩)else r2:=by
     rw[p,hr2];split<;>rfl
    clear p;have bw:=lh F1;have bT:=lh dY;obtain⟨I,u⟩:=zX ((⟨k1,n1,t1⟩:LVal).true)
    rw[<-u]at hR;have HT:=lh (λW=>Zd7 W ⟨k1,n1,t1⟩);simp only[LVal.agg]at HT;rw[<-u]at HT;have bW:=lh (λW M' (f:MFr M1 M' W1 W)=>HS.o W M' (bw.o.trans f));have bA:=lh hR;clear ah i1 x1 em i2 F1 dY ty hst hr2 hR HR u;cases I
    all_goals
     go_wp2_with fail
     refine XH ?_;intro bq;refine f8 ?_;intro K hK;refine XP ?_;clear hK K;intro W2 aN b0 b1 b2
    .have am:R=r2:=by have :=bA.o;simpa using this
     clear bA;subst am;refine Zyr ?_;intro iB rP;go_wp2_with fail
     refine ow [(true,0),(true,1),(true,2),(true,3),(true,4),(true,5),(true,6),(true,7),(true,8),(false,9),(true,10),(true,11)] [12,13] (λW=>vC W w.heap.size 0 (.bool fr.strict)/\vC W w.heap.size 1 (vI fr.vars)/\vC W a.b 0 (vI 25)/\vC W a.b 3 (.slice (some ⟨kg,0,none⟩) 2 kc)/\vC W kg 0 (vP x.b)/\vC W kg 1 (vP y.b)) (iB.o _ _ (.drew (.refl _ _))) (λbq=>?_);exact tu7
    .exact Aaz
 .skip
  refine vy (.take 0 (.take 1 (.take 2 (.take 3 (.take 4 (.take 5 (.take 6 (.take 7 (.take 8 (.two 9 (.take 10 (.take 11 (.take 12 (.go 13 (.go 14 (.go 15 (.nil))))))) 13 (.go 9 (.take 10 (.take 11 (.take 12 (.go 14 (.go 15 (.nil))))))))))))))))) 14 (λW=>vC W w.heap.size 0 (.bool fr.strict)/\vC W w.heap.size 1 (vI fr.vars)/\vC W a.b 0 (vI 26)/\vC W a.b 3 (.slice (some ⟨kg,0,none⟩) 2 kc)/\vC W kg 0 (vP x.b)/\vC W kg 1 (vP y.b)) (HS.o _ _ (MFr.drew (.refl _ _))) ?_
  refine qa ?_;refine Zr ?_;apply Sx (H:=ru C w M z r1);·exact SU HS bE HE.o HO.o
  .exact Oz HS bE HM HE.o HO.o
  intro W1 p1 M1 k1 n1 t1 bL ah
  have dp:=lh (show∀W M',MFr M1 M' W1 W->vC W p1 0 (vI k1)/\vC W p1 1 (vI n1)/\vC W p1 2 (.string t1)/\vC W a.b 0 (vI 26)from
   λW M' f=>⟨(ah.2.fr f).cell rfl,(ah.2.fr f).cell rfl,(ah.2.fr f).cell rfl,(HS.o W M' (ah.1.2.1.trans f)).2.2.1⟩)
  obtain⟨s2,q1⟩:=r1;cases q1 with
  |error x1=>
    refine Xb ?_;intro he av hR;simp only at hR;subst hR;obtain⟨T1,P1,rfl,Y⟩:=he.ne;have ed:=lh he;have bw:=lh av.o.1.2.1;obtain⟨b0,b1,b2,-⟩:=dp.o W1 M1 (.refl _ _);clear ah he HR;go_wp2_with fail
    refine Zym ?_;exact Abr
  |ok F=>
    obtain⟨rfl,rfl⟩:F=⟨k1,n1,t1⟩/\bL=.nilIface:=ah.1.2.2;refine YB ?_;intro i1 x1 em i2 F1 dY ty hst r2 hr2 bP bC;rw[<-hr2]at bP bC;have p:=HR.o;simp only at p;have hR:R=if(⟨k1,n1,t1⟩:LVal).true=((26:Int)==25:Bool)then(s2,.ok ⟨k1,n1,t1⟩)else r2:=by
     rw[p,hr2];split<;>rfl
    clear p;have bw:=lh F1;have bT:=lh dY;obtain⟨I,u⟩:=zX ((⟨k1,n1,t1⟩:LVal).true)
    rw[<-u]at hR;have HT:=lh (λW=>Zd7 W ⟨k1,n1,t1⟩);simp only[LVal.agg]at HT;rw[<-u]at HT;have bW:=lh (λW M' (f:MFr M1 M' W1 W)=>HS.o W M' (bw.o.trans f));have bA:=lh hR;clear ah i1 x1 em i2 F1 dY ty hst hr2 hR HR u;cases I
    all_goals
     go_wp2_with fail
     refine Zym ?_;intro bq;refine f8 ?_;intro K hK;refine XP ?_;clear hK K;intro W2 aN b0 b1 b2
    .exact Aaz
    .have am:R=r2:=by have :=bA.o;simpa using this
     clear bA;subst am;refine Zyr ?_;intro iB rP;go_wp2_with fail
     refine ow [(true,0),(true,1),(true,2),(true,3),(true,4),(true,5),(true,6),(true,7),(true,8),(false,9),(true,10),(true,11)] [12,13] (λW=>vC W w.heap.size 0 (.bool fr.strict)/\vC W w.heap.size 1 (vI fr.vars)/\vC W a.b 0 (vI 26)/\vC W a.b 3 (.slice (some ⟨kg,0,none⟩) 2 kc)/\vC W kg 0 (vP x.b)/\vC W kg 1 (vP y.b)) (iB.o _ _ (.drew (.refl _ _))) (λbq=>?_);exact tu7
end
