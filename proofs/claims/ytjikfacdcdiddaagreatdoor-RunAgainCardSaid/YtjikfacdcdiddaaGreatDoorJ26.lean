/- Package run: call: a function, eval. -/
import Derived.Test.YtjikfacdcdiddaaGreatDoorJ25
import Derived.Shelf.Strings.OnBuilder
set_option maxRecDepth 100000
set_option maxHeartbeats 20000000
set_option linter.unusedVariables false
set_option linter.unusedSimpArgs false
namespace Go.Proofs.YtjikfacdcdiddaaGreatDoor
open Go Go.RowKit
section
variable {C:RCtx}{M M1:MRep}{w z W:World}{s:MSt}{B:Nat}{a x0:ATree}{l:List ATree}{V:VF}{D:DF}{b sc:Int}{fr:Frm}{d:Nat}{A:Act}{K:Act->World->Prop}{vs:List LVal}{v:Value}{code:Int}{RR:MSt×Except Er LVal}
theorem Zjq:dX [1,1,1,1,1,1,1,1]=Code.seq (dX [1,1,1,1,1,1,1,1,0]) (Code.seq (dX [1,1,1,1,1,1,1,1,1,0]) (Code.seq (dX [1,1,1,1,1,1,1,1,1,1,0]) (Code.seq (dX [1,1,1,1,1,1,1,1,1,1,1,0]) (Code.seq (dX [1,1,1,1,1,1,1,1,1,1,1,1,0]) (Code.seq (dX [1,1,1,1,1,1,1,1,1,1,1,1,1,0]) (dX [1,1,1,1,1,1,1,1,1,1,1,1,1,1])))))):=by kernel_rfl
theorem Zbn:SP.toList=[101,118,97,108]:=by kernel_rfl
theorem MAt.clo(h:MAt C M1 W s){k:Nat}{x:CloR}(hx:M1.cl[k]?=some x):∃g cap,M1.row 3=.slice (some ⟨g,0,none⟩) M1.cl.length cap∧M1.cl.length<=cap∧cap<=maxLen∧g<W.heap.size∧M1.has g∧vC W C.mb 9 (.slice (some ⟨g,0,none⟩) M1.cl.length cap)∧
 W.cell? ⟨g,k*3,none⟩=some (vP x.a.b)∧W.cell? ⟨g,k*3+1,none⟩=some (vI x.scope)∧W.cell? ⟨g,k*3+2,none⟩=some (.bool x.strict):=by
 have o:W.ownsRow 0 119 3 (M1.row 3) M1.cl.length (M1.cl.flatMap CloR.cells):=h.rows 3 Pa;have hc:=h.rcell 3 Pa;have hl:=(List.getElem?_eq_some_iff.1 hx).1;rcases Z4 o with⟨hv,E⟩|⟨g,c,hv,p,u,y⟩;·omega
 .rw[hv]at hc
  exact⟨g,c,hv,p,u,y,.inr ⟨3,by decide,by rw[hv];rfl⟩,hc,Md (f:=CloR.cells) (m:=3) (λ_=>rfl) o (g:=g) Pv (i:=k) (j:=0) hx rfl,
   Md (f:=CloR.cells) (m:=3) (λ_=>rfl) o (g:=g) Pv (i:=k) (j:=1) hx rfl,Md (f:=CloR.cells) (m:=3) (λ_=>rfl) o (g:=g) Pv (i:=k) (j:=2) hx rfl⟩
theorem Zpk(gK:F9 C.w0)(hW:Words C.w0)(hL:B7 C.w0 C.w0.heap.size)(cZ:Dl C D b)(hD:DH D b)(hc:CaC C M w z a x0 l B fr)(y:MAt C M1 W s)(I:MFr M M1 z W)(hI:Inv s (d+17000))(hA:FAt s sc fr)(hb:b<=s.steps)(hs:s.steps<=20000)
 (Y:∃wA,VRow C M1 wA W v vs)(dI:∀u∈vs,VQ s u)(hl:vs.length<=1500)(Z:0<=code∧code<3+s.clos.length∧code≠0∧code≠1)(h2:code=2->∃u l',vs=u::l')
 (E:RR=if s.calls=40 then(s,.error (.thr (.say Sp)))else TO s (Uf D (a.nt C.N) sc fr code vs {s with calls:=s.calls+1}))(lI:FrA 214 (Sm C w a sc [(12,v),(17,vI code)]) [] A) :
 (dX [1,1,1,1,1,1,1,1]).wp Tryz.prog (Ys Tryz.prog Tryz.f131 (λe w'=>al C M w RR e w')) A W:=by
 obtain⟨kg,kc,ct,aR,hk⟩:=hc.two;obtain⟨wA,Y⟩:=Y;have uw:∃wA,VRow C M1 wA W v vs:=⟨wA,Y⟩
 obtain⟨pv,cv,ic,jT,iT,iL⟩:=Y.form;have l0:=(hc.lm.fr I).cell (i:=0) rfl;have CE:=y.cell 13 (vI s.calls) Pl;have AH:=y.cell 14 (vI s.last.kind) Pl;have AI:=y.cell 15 (vI s.last.n) Pl;have tT:=y.cell 16 (.string s.last.s) Pl;have JJ:=y.fz 13;have AY:=hI.calls;obtain⟨n,bI⟩:=zX vs.length
 have dA:v=.slice pv n cv:=by rw[bI];exact ic
 have iP:=lh hc;have ar:=lh hc.lr;have bJ:=lh hc.below;have HM:=lh y;have HF:=lh I;obtain⟨p,sT⟩:=zX s.calls
 rw[<-sT]at CE E AY;have jF:IntKind.i64.wrap (p+1)=p+1:=IntWalk.i64_in _ O';obtain⟨lk,eV⟩:=zX s.last.kind
 obtain⟨ln,ik⟩:=zX s.last.n
 obtain⟨lt,aA⟩:=zX s.last.s
 rw[<-eV]at AH;rw[<-ik]at AI;rw[<-aA]at tT;have dP:w.heap.size≠C.mb:=λe=>(hc.lm.fr I).free (e▸y.mbHas);unfold Sm at lI;rw[dA]at lI;obtain⟨xt,rfl,e1,e2,e4,e7,e8,lJ,AZ,-⟩:=YA lI;rw[e1,e2,e4,e7,e8,lJ,AZ];clear e1 e2 e4 e7 e8 lJ AZ lI;rw[Zjq];by_cases Gg:p=40
 .rw[Y5 Gg]at E;have eR:=lh E;subst Gg;have mD:=KB y Sp;simp only[Sp]at mD;have uO:=lh mD;clear gK hW hL cZ hD hc y I hI hA hb hs Y uw dI hl Z h2 E hk iL mD ic dA AH AI tT sT eV ik aA;refine wp_seq_k (λK hK=>?_);clear hK;conv=>arg 2;whnf
  go_wp2_with fail
  refine uO.o.mono ?_;rintro e w5⟨oY,rfl,ra,eS⟩;have xq:=lh (show ak C M1 w5 (.thr (.say Sp)) oY from ra);exact ZM
 ·rw [Y3 Gg] at E;obtain ⟨s1, J⟩ : ∃ s1 : MSt, s1 = { s with calls := p + 1 } := ⟨_, rfl⟩
  rw[<-J]at E;obtain⟨r,hr⟩:=zX (Uf D (a.nt C.N) sc fr code vs s1)
  rw[<-hr]at E;have gj:Inv s1 (d+17000):=by rw[J];exact(Inv.turn (k:=s.steps) (c:=p+1) (v:=s.last) (d':=d+17000) hI (Int.le_refl _) hI.steps.2 O' hI.last O').1
  have Gh:Ext s s1:=by rw[J];exact⟨Y0 _,λi c h=>⟨c,h,rfl,rfl⟩,Y0 _,⟨[],(List.append_nil _).symm⟩,⟨[],(List.append_nil _).symm⟩,rfl,rfl,rfl,Int.le_refl _,⟨[],(List.append_nil _).symm⟩,⟨[],(List.append_nil _).symm⟩⟩
  have kJ:=hA.ext Gh;have wD:∀u∈vs,VQ s1 u:=λu hu=>VQ.ext (dI u hu) Gh;have dC:s1.steps=s.steps:=by rw[J]
  have oE:s1.clos=s.clos:=by rw[J]
  have aj:=Zgo (n:=a.nt C.N) (code:=code) (args:=vs) (d:=d) hD gj kJ ⟨Z.1,by rw[oE];exact Z.2.1,Z.2.2.1,Z.2.2.2⟩ wD hl O' O';rw[<-hr]at aj;have yr:=lh (show r.1.calls=s.calls+1 from aj.2.2.1.trans (by rw[J,sT]));have pI:=lh (show 0<=s.calls∧s.calls<=40 from hI.calls);have eR:=lh E;obtain⟨O,g2⟩:=Zej y (p+1);have O:MAt C M1 (W.setCell ⟨C.mb,13,none⟩ (vI (p+1))) s1:=by rw[J];exact O
  obtain⟨W1,uj⟩:=zX (W.setCell ⟨C.mb,13,none⟩ (vI (p+1)))
  rw[<-uj]at O g2;have qc:W1.heap.size=W.heap.size:=by rw[uj];simp[World.setCell]
  have au:=Z1 W1 (.cells #[vI lk,vI ln,.string lt] 55);have di:=Lo.new (wE:=w) O (by rw[qc];exact Y4 hc.below.size I.size) hc.old #[vI lk,vI ln,.string lt] 55;rw[qc]at di;obtain⟨W2,gQ⟩:=zX (W1.alloc (.cells #[vI lk,vI ln,.string lt] 55))
  rw[<-gQ]at di au;have aQ:=O.below au;have qD:=g2.trans (.of_below au);have aq:=I.trans qD;have A0:W.heap.size≠w.heap.size+1+1:=by have:=hc.lr.lt;have:=I.size;omega
  rw[eV,ik,aA]at di;have g9:=lh di;have yt:=lh A0;have U:=lh aQ;have aZ:=lh aq;have fH:=lh (show W2=(W.setCell ⟨C.mb,13,none⟩ (vI (p+1))).alloc (.cells #[vI lk,vI ln,.string lt] 55) by rw[gQ,uj]);have o8:=lh hk;have oD:=lh (show∃wA,VRow C M1 wA W2 v vs from⟨wA,Y.fr qD⟩)
  have pq:=lh (show∀(i:Nat) (u:LVal),vs[i]?=some u->∃g,pv=some ⟨g,0,none⟩∧∀M' m,MFr M1 M' W2 m->m.cell? ⟨g,i*3+2,none⟩=some (.string u.s)from
   λi u hu=>by
    obtain⟨g,e1,e2,e3,a0,a1,a2⟩:=iL i u hu;exact⟨g,e1,λM' m f=>((qD.trans f).cell e2 e3).trans a2⟩)
  have HR:=lh hr;have eL:=lh gj;have oW:=lh kJ;have fK:=lh wD;have fX:=lh hl;have X:=lh (show b<=s1.steps∧s1.steps<=20000 by omega);have Ba:=lh Z;have H2:=lh h2;have kA:=lh (And.intro gK (And.intro hW hL));have iX:=lh cZ;have HD:=lh hD;have Gi:=lh hc.ok;have Nr:=lh dA;have pH:=lh bI;have Ns:=lh oE;have Gj:=lh y.clos;have OV:=lh qD;clear gK hW hL cZ hD hc y I hI hA hb hs Y uw dI hl Z h2 E hk iL ic dA J hr gj Gh kJ wD dC oE aj O g2 uj qc au di gQ aQ qD aq A0 sT eV ik aA bI
  refine dh ?_;intro K HK;go_wp2_with fail
  refine HK.o _ _ ?_;clear HK K;refine dh ?_;intro K HK;go_wp2_with fail
  refine HK.o _ _ ?_;clear HK K;obtain⟨b0,b1,b2,b3⟩:(W.setCell ⟨C.mb,13,none⟩ (vI (p+1))).cell? ⟨w.heap.size,0,none⟩=some (vP C.mb)∧(W.setCell ⟨C.mb,13,none⟩ (vI (p+1))).cell? ⟨C.mb,14,none⟩=some (vI lk)∧(W.setCell ⟨C.mb,13,none⟩ (vI (p+1))).cell? ⟨C.mb,15,none⟩=some (vI ln)∧(W.setCell ⟨C.mb,13,none⟩ (vI (p+1))).cell? ⟨C.mb,16,none⟩=some (.string lt):=by
   refine⟨(World.cell?_setCell_other _ _ _ _ (by intro e;have h:=congrArg Addr.block e;first|exact dP h|exact dP h.symm)).trans l0,(World.cell?_setCell_other _ _ _ _ Pm).trans AH,(World.cell?_setCell_other _ _ _ _ Pm).trans AI,(World.cell?_setCell_other _ _ _ _ Pm).trans tT⟩
  clear l0 CE AH AI tT JJ;refine dh ?_;intro K HK;go_wp2_with fail
  refine HK.o _ _ ?_;clear HK K b0 b1 b2 b3;rw[<-fH.o];refine dh ?_;intro K HK;go_wp2_with fail
  refine HK.o _ _ ?_;clear HK K;obtain⟨f0,f1,f2,d3,nP,-⟩:=o8.o _ _ aZ.o;have gi:=aZ.o.tree (iP.o.kid (List.mem_cons_self)).1 (iP.o.kid (List.mem_cons_self)).2;have e0:=gi.1.c0;have e1:=gi.1.c1;clear gi;by_cases lu:code=2
  .obtain⟨u,l',rp⟩:=H2.o lu;have fG:vs[0]? =some u:=by rw[rp];rfl
   have iY:n=l'.length+1:=by rw[pH.o,rp];rfl
   obtain⟨gv,sP,fV⟩:=pq.o 0 u fG;subst sP;have hr2:r=if x0.kind=23∧x0.text=SP then P0 D u.s sc fr s1 else P0 D u.s s1.top ⟨false,s1.outer⟩ s1:=by
    rw[HR.o];unfold Uf;rw[Y3 (by rw[lu];simp),rp];have ek:(a.nt C.N).kid 0=x0.nt C.N:=sp (by rw[iP.o.kids];rfl);rw[ek,Zc,Zz];rfl
   have bD:=lh hr2;have HG:=lh fV;have OW:0<n:=O'
   obtain⟨F,Kd⟩:=zX u.s
   have CS:=lh Kd;subst lu;clear rp fG iY hr2 fV Kd;refine dh ?_;intro K HK;go_wp2_with fail
   refine HK.o _ _ ?_;clear HK K;refine dh ?_;intro K HK;by_cases gX:x0.kind=23∧x0.text=SP
   .obtain⟨oF,bg⟩:=gX;have dp:r=P0 D F sc fr s1:=by rw[bD.o,Y5 ⟨oF,bg⟩,CS.o]
    have Dn:(x0.text.toList== [101,118,97,108])=true:=by rw[<-Zbn,bg];simp
    rw[oF]at e0;have o:=Calls.vres (Zct kA.o.2.1 kA.o.2.2 Gi.o iX.o HD.o U.o.drew (d:=d+3399) eL.o oW.o X.o.1 X.o.2 F);rw[<-dp]at o;have rK:=lh o
    have q8:=lh (show∀m M',MFr M1 M' W2 m->vC m w.heap.size 0 (vP C.mb)∧vC m (w.heap.size+1) 0 (.bool fr.strict)∧vC m (w.heap.size+1) 1 (vI fr.vars)∧vC m gv 2 (.string F)from
     λm M' f=>by
      obtain⟨g0,O,g2,-⟩:=o8.o _ _ (aZ.o.trans f);have g3:=HG.o M' m f;rw[CS.o];exact⟨g0,O,g2,by simpa using g3⟩)
    clear oF dp o bg;go_wp2_with fail
    refine Za [(true,0),(true,1),(true,2),(true,3),(true,4),(true,5),(true,6),(false,7),(true,8),(true,9)] [10,11] (λW=>vC W w.heap.size 0 (vP C.mb)∧vC W (w.heap.size+1) 0 (.bool fr.strict)∧vC W (w.heap.size+1) 1 (vI fr.vars)∧vC W gv 2 (.string F)) Pb Pb (λ_ _ d _ _ h=>False.elim h) (q8.o _ _ (.drew (.refl _ _))) (λbu=>?_);refine ep ?_;exact YJ
   .have dp:r=P0 D F s1.top ⟨false,s1.outer⟩ s1:=by rw[bD.o,Y3 gX,CS.o]
    have o:=Calls.vres (Zct (fr:=⟨false,s1.outer⟩) (sc:=s1.top) kA.o.2.1 kA.o.2.2 Gi.o iX.o HD.o U.o.drew (d:=d+3399) eL.o (Zmj oW.o) X.o.1 X.o.2 F);rw[<-dp]at o;have yb:=(Zcr (d:=d+3399) (text:=F) HD.o eL.o (Zmj oW.o) X.o.1 X.o.2)
    rw[<-dp]at yb;have Gk:=yb.2.1;have CT:=lh (show r.1.top=s1.top∧r.1.outer=s1.outer from⟨Gk.top,Gk.outer⟩);have mX:=U.o.cell 12 (vI s1.top) Pl;have wG:=U.o.cell 11 (vI s1.outer) Pl;obtain⟨tp,Ke⟩:=zX s1.top
    obtain⟨ou,xY⟩:=zX s1.outer
    rw[<-Ke]at o mX CT;rw[<-xY]at o wG CT;have rK:=lh o
    have nB:=lh (show∀m M',MFr M1 M' W2 m->vC m w.heap.size 0 (vP C.mb)∧vC m gv 2 (.string F)from
     λm M' f=>by
      obtain⟨g0,-⟩:=o8.o _ _ (aZ.o.trans f);have g3:=HG.o M' m f;rw[CS.o];exact⟨g0,by simpa using g3⟩)
    have Gl:=lh (And.intro mX wG);have dr:(x0.kind=23∧(x0.text.toList== [101,118,97,108])=false)∨((x0.kind==23)=false∧decide (x0.kind=23)=false):=by
     by_cases jB:x0.kind=23
     .refine .inl ⟨jB,?_⟩;cases hb:(x0.text.toList== [101,118,97,108])with
      |false=>rfl
      | true =>
        rw[<-Zbn,RV]at hb;exact absurd ⟨jB,Zl1.1 hb⟩ gX
     .exact .inr ⟨by simpa using jB,by simpa using jB⟩
    clear gX dp o yb Gk mX wG Ke xY;rcases dr with⟨oF,Dn⟩|⟨ct,Nt⟩
    all_goals
     (try rw[oF]at e0)
     (try clear oF)
     go_wp2_with fail
     refine HK.o _ _ ?_;clear HK K;conv=>arg 2;whnf
     go_wp2_with fail
     refine Za [(true,0),(true,1),(true,2),(true,3),(true,4),(true,5),(true,6),(true,7),(true,8),(true,9),(true,10),(true,11),(true,12),(true,13),(false,14),(true,15),(true,16)] [17,18] (λW=>vC W w.heap.size 0 (vP C.mb)∧vC W gv 2 (.string F)∧vC W C.mb 12 (vI tp)∧vC W C.mb 11 (vI ou)) Pb Pb (λ_ _ d _ _ h=>False.elim h) (⟨(nB.o _ _ (.drew (.refl _ _))).1,(nB.o _ _ (.drew (.refl _ _))).2,Gl.o⟩) (λbu=>?_)
     refine ep ?_;refine Z6 (λK hK=>?_);go_simp
     refine rK.o.mono ?_;rintro e W3⟨M3,k3,n3,t3,fg,rfl,dp⟩;have F3:=(MFr.drew (.refl M1 W2)).trans dp.2.1;refine hK _ _ ⟨(nB.o _ _ F3).1,(nB.o _ _ F3).2,by rw[<-CT.o.1];exact dp.1.cell 12 (vI r.1.top) Pl,by rw[<-CT.o.2];exact dp.1.cell 11 (vI r.1.outer) Pl⟩ ?_;clear hK K;have dU:=lh dp;have bE:=lh (aZ.o.trans F3);have oO:=lh (g9.o.fr F3);obtain⟨q0,q1,q2,z0,z1,z2⟩:=(ar.o.fr bE.o).six;clear dp F3 rK;simp only[ag];refine ep ?_;refine Z0 ?_;go_wp2_with fail
     show Go.Leaves _ _ _ _ _ _ _;exact Zgn (r:=r) iP.o dU.o.1 bE.o (yr.o) pI.o oO.o yt.o eR.o dU.o.2.2 rfl rfl
  .obtain⟨k,yM⟩:∃k:Nat,code=((k+3:Nat):Int):=⟨(code-3).toNat,by have :=Ba.o;omega⟩
   have ba:k<M1.cl.length:=by have h1:=Ba.o.2.1;have h2:=Gj.o;rw[h2,Ym]at h1;omega
   obtain⟨x,hx⟩:∃x,M1.cl[k]?=some x:=⟨_,Y6 ba⟩
   obtain⟨gc,cap,Bb,Bc,ux,cY,Nu,r9,ya,Kf,Kg⟩:=U.o.clo hx;have Dp:IntKind.i64.wrap (code-3)=(k:Int):=by
    rw[yM,show((k+3:Nat):Int)-3=(k:Int) by omega];unfold maxLen at ux;exact IntWalk.i64_in _ O'
   have ee:=Yd hx;have l9:=U.o.trees x ee;have Gm:s1.clos[k]?=some (x.clo C.N):=by rw[U.o.clos,Yg,hx];rfl
   have CU:=eL.o.clo (x.clo C.N) (Yd Gm);have hr2:r=Vr D (x.clo C.N) vs s1:=by
    rw[HR.o];unfold Uf;rw[Y5 lu,show(code-3).toNat=k by omega,List.getD_eq_getElem?_getD,Gm];rfl
   have mT:∃wA,VRow C M1 wA W2.drew v vs:=by
    obtain⟨wA,h⟩:=oD.o;exact⟨wA,h.fr (.drew (.refl _ _))⟩
   have o:=Calls.vres (Zhj (x:=x) (v:=v) (vs:=vs) kA.o.1 Gi.o iX.o HD.o U.o.drew (d:=d) eL.o oW.o.root CU.1 CU.2.1 CU.2.2 l9.1.drew l9.2 mT fK.o fX.o X.o.1 X.o.2);rw[<-hr2,Nr.o]at o;obtain⟨cn,vR⟩:=zX M1.cl.length
   rw[<-vR]at r9 ba Bc;simp only[ATree.ptr]at o;obtain⟨xb,ij⟩:=zX x.a.b
   obtain⟨xs,cI⟩:=zX x.scope
   obtain⟨xr,uT⟩:=zX x.strict
   rw[<-ij,<-cI,<-uT]at o;rw[<-ij]at ya;rw[<-cI]at Kf;rw[<-uT]at Kg;have rK:=lh o;have q8:=lh (show∀m M',MFr M1 M' W2 m->vC m w.heap.size 0 (vP C.mb)from λm M' f=>(o8.o _ _ (aZ.o.trans f)).1);have Gn:(code==2)=false:=by simp;exact lu
   have Gp:decide (code=2)=false:=by simp;exact lu
   unfold maxLen at ux;clear yM hx Bb ee l9 Gm CU hr2 mT o vR ij cI uT Nu cY;refine dh ?_;intro K HK;go_wp2_with fail
   clear lu Gn Gp;refine Za [(true,5),(true,6),(true,9),(true,0),(true,1),(true,2),(true,3),(false,4),(true,7),(false,8),(false,10),(true,11),(true,12)] [13,14] (λW=>vC W w.heap.size 0 (vP C.mb)) Pb Pb (λ_ _ d _ _ h=>False.elim h) f0 (λbu=>?_);refine ep ?_;have OX:W2.drew.cell? ⟨C.mb,9,none⟩=some (.slice (some ⟨gc,0,none⟩) cn cap):=r9;refine Z6 (λK hK=>?_);go_simp
   refine hK _ _ (show _ from f0) ?_;clear hK K;refine ep ?_;have Nv:W2.drew.cell? ⟨gc,k*3,none⟩=some (vP xb):=ya;have Nw:W2.drew.cell? ⟨gc,k*3+1,none⟩=some (vI xs):=Kf;have Nx:W2.drew.cell? ⟨gc,k*3+2,none⟩=some (.bool xr):=Kg;refine Z6 (λK hK=>?_);go_simp
   refine hK _ _ (show _ from f0) ?_;clear hK K;exact YJ
end
end Go.Proofs.YtjikfacdcdiddaaGreatDoor
namespace Go.Proofs
def Tryz.lays156_ren:Go.Shelf.Ren:=⟨fun|156=>140|165=>154|166=>155|169=>90|240=>124|241=>163|276=>136|277=>165|n=>n,fun|31=>26|9=>9|3=>3|4=>4|0=>0|20=>20|72=>186|76=>232|70=>183|37=>184|75=>31|127=>205|164=>121|5=>5|80=>188|n=>n,fun|n=>n⟩
theorem Tryz.lays156:Go.Proofs.Lays.n156 Tryz.prog Tryz.lays156_ren:={
 mixed:=by kernel_rfl
 f156:=Tryz.func140.trans (congrArg some (by kernel_rfl))
 f165:=Tryz.func154.trans (congrArg some (by kernel_rfl))
 f166:=Tryz.func155.trans (congrArg some (by kernel_rfl))
 f169:=Tryz.func90.trans (congrArg some (by kernel_rfl))
 f240:=Tryz.func124.trans (congrArg some (by kernel_rfl))
 f241:=Tryz.func163.trans (congrArg some (by kernel_rfl))
 f276:=Tryz.func136.trans (congrArg some (by kernel_rfl))
 f277:=Tryz.func165.trans (congrArg some (by kernel_rfl))
 t0:=Tryz.underlying0
 a0:=Tryz.isAgg0
 z0:=Tryz.sizeOf0
 v0:=Tryz.zeroValue0
 t3:=Tryz.underlying3
 a3:=Tryz.isAgg3
 z3:=Tryz.sizeOf3
 v3:=Tryz.zeroValue3
 t4:=Tryz.underlying4
 a4:=Tryz.isAgg4
 z4:=Tryz.sizeOf4
 v4:=Tryz.zeroValue4
 t9:=Tryz.underlying9
 a9:=Tryz.isAgg9
 z9:=Tryz.sizeOf9
 v9:=Tryz.zeroValue9
 t20:=Tryz.underlying20
 a20:=Tryz.isAgg20
 z20:=Tryz.sizeOf20
 v20:=Tryz.zeroValue20
 t31:=Tryz.underlying26
 a31:=Tryz.isAgg26
 z31:=Tryz.sizeOf26
 v31:=Tryz.zeroValue26
 t37:=Tryz.underlying184
 a37:=Tryz.isAgg184
 z37:=Tryz.sizeOf184
 v37:=Tryz.zeroValue184
 t70:=Tryz.underlying183
 a70:=Tryz.isAgg183
 z70:=Tryz.sizeOf183
 v70:=Tryz.zeroValue183
 t72:=Tryz.underlying186
 a72:=Tryz.isAgg186
 z72:=Tryz.sizeOf186
 v72:=Tryz.zeroValue186
 t75:=Tryz.underlying31
 a75:=Tryz.isAgg31
 z75:=Tryz.sizeOf31
 v75:=Tryz.zeroValue31
 t76:=Tryz.underlying232
 a76:=Tryz.isAgg232
 z76:=Tryz.sizeOf232
 v76:=Tryz.zeroValue232
 t127:=Tryz.underlying205
 a127:=Tryz.isAgg205
 z127:=Tryz.sizeOf205
 v127:=Tryz.zeroValue205
 t164:=Tryz.underlying121
 a164:=Tryz.isAgg121
 z164:=Tryz.sizeOf121
 v164:=Tryz.zeroValue121}
theorem Tryz.Builder_Extra_156:Builder.Extra Tryz.prog Tryz.lays156_ren:={
 sizeBuilder:=by kernel_rfl
 liesBuilder:=by kernel_rfl
 t5:=Tryz.underlying5
 a5:=Tryz.isAgg5
 z5:=Tryz.sizeOf5
 v5:=Tryz.zeroValue5
 infoByte:=by kernel_rfl
 cellsByte:=by kernel_rfl
 sizeByte:=by kernel_rfl
 neB5:=by decide}
open Go.RowKit in
theorem Tryz.strings_Join_none(a:Option Addr)(c:Nat)(g:ByteArray)(w:World) :
 Calls Tryz.prog 140 #[.slice a 0 c,.string g] w λe w'=>e=.returned (.string ⟨#[]⟩)∧w'=w:=Any.strings_Join_none Tryz.lays156 Tryz.Builder_Extra_156 a c g w
open Go.RowKit in
theorem Tryz.strings_Join(m o c:Nat)(g:List ByteArray)(p:ByteArray)(w:World)(u:∀(j:Nat) x,g[j]?=some x->w.cell? ⟨m,o+j,none⟩=some (.string x))(y:m<w.heap.size)(E:g.length<=140737488355328)(F:g.length<=c)(G:(Lib.join (g.map (·.data.toList)) p.data.toList).length<=140737488355328) :
 Calls Tryz.prog 140 #[.slice (some ⟨m,o,none⟩) g.length c,.string p] w λe w'=>e=.returned (.string ⟨(Lib.join (g.map (·.data.toList)) p.data.toList).toArray⟩)∧Below w.heap.size w w':=Any.strings_Join Tryz.lays156 Tryz.Builder_Extra_156 m o c g p w u y E F G
end Go.Proofs
namespace Go.Proofs.YtjikfacdcdiddaaGreatDoor
open Go Go.RowKit
section
variable {C:RCtx}{M M1:MRep}{w z W:World}{s:MSt}{B:Nat}{a x0:ATree}{l:List ATree}{V:VF}{D:DF}{b sc:Int}{fr:Frm}{d:Nat}{A:Act}{K:Act->World->Prop}{Q:Exit->Act->World->Prop}{vs:List LVal}{v:Value}{RR:MSt×Except Er LVal}
theorem Zk3{n:Nat}:∀l:List (List UInt8),(∀x∈l,x.length<=n)->Lib.lens l<=n*l.length
 | [],_=>by simp[Lib.lens]
 | x :: l, h => by
   have g:=Zk3 l λy hy=>h y Ry;have m:=h x Pg;have e:Lib.lens (x::l)=x.length+Lib.lens l:=by simp[Lib.lens]
   rw[e,List.length_cons,Nat.mul_add];omega
theorem Zhc{w:World}{B:Nat}{v:Value}{l:List ByteArray}(h:Zy w B v l)(hn:l.length<=1500)(hs:∀x∈l,x.size<=8388608) :
 Calls Tryz.prog 140 #[v,.string ⟨#[32]⟩] w λe w'=>e=.returned (.string (UR l))∧Below w.heap.size w w':=by
 rcases Z4 h with⟨hv,m⟩|⟨g,c,hv,o,J,p⟩
 .have e:=List.eq_nil_of_length_eq_zero m;subst e;rw[hv,show UR []=⟨#[]⟩ by simp[UR,Lib.join]];refine(Tryz.strings_Join_none none 0 _ w).mono ?_;rintro e w'⟨rfl,rfl⟩;exact⟨rfl,Y2 _ _⟩
 ·rw [hv];have u:(Lib.join (l.map (·.data.toList)) [32]).length≤140737488355328:=by
   cases l with
   |nil=>simp[Lib.join]
   | cons x r =>
     rw[List.map_cons,Lib.join_length];have E:=Zk3 (n:=8388608) ((x::r).map (·.data.toList)) (λy F=>by
      obtain⟨z,m,rfl⟩:=List.mem_map.1 F;have:=hs z m;show z.data.toList.length<=8388608;rw[Array.length_toList];exact this)
     rw[List.map_cons,List.length_cons,Ym]at E;rw[List.length_cons]at hn;rw[show([32]:List UInt8).length=1 from rfl,Ym];omega
  refine(Tryz.strings_Join g 0 c l ⟨#[32]⟩ w (λj x hx=>?_) p O' o u).mono ?_
  .rw[Nat.zero_add];exact h.cells (b:=g) Pv hx
  .rintro e w'⟨rfl,I⟩;exact⟨rfl,I⟩
theorem Znn(gK:F9 C.w0)(hc:CaC C M w z a x0 l B fr)(hM:MAt C M1 W s)(hF:MFr M M1 z W)(hI:Inv s (d+1)){wA:World}(ae:VRow C M1 wA W v vs)(dI:∀u∈vs,VQ s u)(hl:vs.length<=1500)
 (aS:RR=(({s with log:=s.log++[UR (vs.map s.H.shown)]}:MSt),.ok LVal.zero))(lI:FrA 214 (Sm C w a sc [(12,v)]) [] A)
 (hQ:∀c a d v w,Q (.panic c) (Act.put a d v) w->Q (.panic c) a w)(Kh:∀y a' w',(results Tryz.f131 a'.tmps).run Tryz.prog w'=.ok y w'->a'.defers=[]->al C M w RR (.returned y) w'->Q .ret a' w') :
 (dX [1,1,1,1,1,1,1,0,0,1,1,1,0]).wp Tryz.prog Q A W:=by
 obtain⟨i0,hi,aD,bo,bT⟩:=info_parts Tryz.infoStr;obtain⟨pv,cv,ic,jT,iT,iL⟩:=ae.form;obtain⟨n,bI⟩:=zX vs.length
 rw[<-bI]at ic jT hl;have HN:=lh bI
 have pq:=lh (show∀(i:Nat) (u:LVal),vs[i]?=some u->∃g,pv=some ⟨g,0,none⟩∧∀m,Below W.heap.size W m->m.cell? ⟨g,i*3,none⟩=some (vI u.kind)∧m.cell? ⟨g,i*3+1,none⟩=some (vI u.n)∧m.cell? ⟨g,i*3+2,none⟩=some (.string u.s)from
  λi u hu=>by
   obtain⟨g,h1,h2,h3,a0,a1,a2⟩:=iL i u hu;exact⟨g,h1,λm f=>⟨(f.cell (p:=⟨g,i*3,none⟩) h2).trans a0,(f.cell (p:=⟨g,i*3+1,none⟩) h2).trans a1,(f.cell (p:=⟨g,i*3+2,none⟩) h2).trans a2⟩⟩)
 have Ki:=lh (show∀m,Below W.heap.size W m->vC m w.heap.size 0 (vP C.mb)from λm f=>((hc.lm.fr hF).bel f).cell rfl);have mL:=lh hc.lm;have ar:=lh hc.lr;have bJ:=lh hc.below;have HF:=lh hF;have HM:=lh hM;have HI:=lh hI;have wj:=lh gK;have oS:=lh dI;have eR:=lh aS;have ga:=lh hQ;have Ny:=lh Kh;have xo:=lh (show∀x∈vs.map s.H.shown,x.size<=8388608 from λx hx=>by
  obtain⟨u,hu,rfl⟩:=List.mem_map.1 hx;exact Z8j s.H (dI u hu) hI.objs)
 unfold maxLen at iT;subst ic;unfold Sm at lI;obtain⟨xt,rfl,e1,e2,e4,e7,e8,lJ,-⟩:=YA lI;rw[e1,e2,e4,e7,e8,lJ];clear e1 e2 e4 e7 e8 lJ lI;clear gK hc hM hF hI ae dI aS hQ Kh iL bI;conv=>arg 2;whnf
 go_wp2_with fail
 go_loopw [18,86] (λv i wr=>∃k,k<=n∧i=(vI k)∧Hid (Below W.heap.size W wr)∧Hid (Zy wr W.heap.size v ((vs.take k).map s.H.shown))) (λ_ i _=>n-(intOf i).toNat)
 case atStart=>exact⟨0,Yh _,rfl,lh (Y2 _ _),lh (Zy.nil _ _)⟩
 case round=>
  obtain⟨k,hk,rfl,O,HT⟩:=hrel;by_cases bV:k<n
  .obtain⟨u,hu⟩:∃u,vs[k]? =some u:=⟨_,Y6 Pu⟩
   have kf:=oS.o u (Yd hu);obtain⟨gv,sP,fV⟩:=pq.o k u hu;subst sP;have nq:=λ(m:World) (hW:Below W.heap.size W m)=>Znm wj.o (HM.o.below hW) HI.o u kf;have dT:(vs.take (k+1)).map s.H.shown=(vs.take k).map s.H.shown++[s.H.shown u]:=by rw[List.take_add_one,hu];simp
   obtain⟨tx,bg⟩:=zX (s.H.shown u)
   rw[<-bg]at nq dT;obtain⟨uk,un,us⟩:=u;obtain⟨b0,b1,b2⟩:=fV wr O.o;have U:=Z1 wr (.cells #[vI uk,vI un,.string us] 55);have bS:=lh (show(wr.alloc (.cells #[vI uk,vI un,.string us] 55)).heap[wr.heap.size]?=some (.cells #[vI uk,vI un,.string us] 55 (0,0))from heap_alloc_new wr _);have aO:=lh U;have xM:=lh dT;simp only[LVal.agg]at nq;have Gq:=lh nq;have Kj:=lh (show((vs.take k).map s.H.shown).length=k by rw[Ym,List.length_take];have:=HN.o;omega);simp only at b0 b1 b2
   clear hu kf fV nq dT bg U;go_wp2_with fail
   obtain⟨W2,gQ⟩:=zX (wr.alloc (.cells #[vI uk,vI un,.string us] 55))
   have X:=bS.o;have U:=aO.o;rw[<-gQ]at X U ⊢;obtain⟨J,uy⟩:=zX wr.heap.size
   rw[<-uy]at X ⊢;have eX:=zT O U;have De:=lh (HT.o.bel U);have lF:J<W2.heap.size:=(Y1.1 X).1
   have HY:=lh (show∀m,Below W2.heap.size W2 m->vC m w.heap.size 0 (vP C.mb)∧vC m J 0 (vI uk)∧vC m J 1 (vI un)∧vC m J 2 (.string us)from
    λm f=>⟨Ki.o m (eX.o.trans (f.mono eX.o.size)),by unfold vC;rw[f.cell (p:=⟨J,0,none⟩) lF];simp[World.cell?,X],by unfold vC;rw[f.cell (p:=⟨J,1,none⟩) lF];simp[World.cell?,X],by unfold vC;rw[f.cell (p:=⟨J,2,none⟩) lF];simp[World.cell?,X]⟩)
   clear X U bS aO lF gQ uy b0 b1 b2;refine Za [(true,0),(true,1),(true,2),(true,3),(true,4),(false,5),(false,6)] [7,8] (λW=>vC W w.heap.size 0 (vP C.mb)∧vC W J 0 (vI uk)∧vC W J 1 (vI un)∧vC W J 2 (.string us)) Pb Pb (λc a d v w h=>ga.o c a d v w h) (HY.o _ (Ze _)) (λbu=>?_);refine ep ?_;refine Z6 (λK F=>?_);go_simp
   refine(Gq.o _ (eX.o.trans ((Ze _).mono eX.o.size))).mono ?_;rintro e E⟨rfl,aB⟩;have I:=(Ze W2).trans (aB.mono (Y0 _));refine F _ _ (HY.o _ I) ?_;clear F K;have qE:=lh I;have ms:=lh (De.o.bel I);have bP:=zT eX I;clear aB I;refine Z6 (λK F=>?_);go_simp
   refine F _ _ (HY.o _ (qE.o.trans ((Z1 _ _).mono qE.o.size))) ?_;clear F K;refine Z0 ?_;have dU:=lh (show E.ownsRow W.heap.size 9 1 u18 k (((vs.take k).map s.H.shown).map Value.string) by have h:=ms.o;unfold Zy at h;rwa[Kj.o]at h)
   refine wpList_append_lies _ rfl (.tmp 90) (.tmp 96) 26 rfl W.heap.size 9 i0 (.string ByteArray.empty) 1 16 Tryz.underlying26 hi aD bo bT rfl Pa u18 k (((vs.take k).map s.H.shown).map Value.string) rfl (dU.o.alloc _) ⟨E.heap.size,0,none⟩ 1 1 [.string tx] rfl rfl (λj u hu=>cell_one_new E _ _ j u hu) Pj Pa Pc O' (by have:=bP.o.size;simp;omega) (E.heap.size+1) Pg ?_;intro g cap W4 aT aC bX Gr;have HG:=lh aC;have HW:=lh aT;clear aC aT bX Gr
   simp only[Act.put,zA,zB,zC];go_wp2_with fail
   go_roundw
   case rel=>
    refine⟨k+1,by omega,by go_num,lh ?_,lh ?_⟩;·exact(bP.o.trans ((Z1 E _).mono bP.o.size)).grown HG.o (by have:=bP.o.size;simp;omega) λj hj=>(Y9 dU.o j hj).1
    .rw[xM.o];unfold Zy;rw[Yi,Kj.o,Yl];exact HW.o
   case measure=>simp[intOf];omega
  .have aR:k=n:=by omega
   subst aR;have hT:=HT.o;rw[Ye PS]at hT;have BO:=λ(m:World) (hW:Below wr.heap.size wr m)=>Zhc (hT.bel hW) (by rw[Ym,<-HN.o];exact hl) xo.o;obtain⟨jt,yz⟩:=zX (UR (vs.map s.H.shown))
   rw[<-yz]at BO;have Nz:=lh BO;have am:RR=(({s with log:=s.log++[jt]}:MSt),.ok LVal.zero):=by rw[eR.o,yz]
   have bD:=lh am;have Y:=HM.o.below O.o;obtain⟨rv,sM⟩:=zX (M1.row 0)
   have fh:=Y.rows 0 Pa;have hr2:=Y.rcell 0 Pa;rw[<-sM]at fh hr2;obtain⟨xs,cI⟩:=zX (nc s M1.cl 0)
   obtain⟨Z,ik⟩:=zX s.log.length
   have BX:Z<=1000000000:=by rw[ik];have:=HI.o.szL;have:=HI.o.steps;omega
   rw[<-cI,show jS s M1.cl 0=Z from ik.symm]at fh;simp only[mK,mZ,rowO]at fh hr2;have lP:=Y.mbLt;have d9:rv.ownBlock≠some C.mb:=λe=>Y.rowNe (i:=0) Pa (by rw[<-sM];exact e);have bz:=Y.fz 2;have l0:=Ki.o wr O.o;have NB:w.heap.size<wr.heap.size:=by have h1:=ar.o.lt;have h2:=HF.o.size;have h3:=O.o.size;omega
   have NC:rv.ownBlock≠some w.heap.size:=λe=>by
    have h1:=((mL.o.fr HF.o).bel O.o).free;exact h1 (.inr ⟨0,by decide,by rw[<-sM];exact e⟩)
   have oM:=lh fh;have Kk:=lh sM;have oN:=lh cI;have bQ:=lh ik;have Gs:=lh Y;have yD:=lh (HF.o.trans (.of_below O.o));clear hT BO yz am Y fh sM cI ik;go_wp2_with fail
   refine Za [(true,0),(true,1),(true,2),(true,3),(true,4),(true,5),(true,6),(false,7),(false,8),(false,9)] [10,11,12,13] (λW=>vC W w.heap.size 0 (vP C.mb)∧vC W C.mb 2 rv) Pb Pb (λc a d v w h=>ga.o c a d v w h) (⟨l0,hr2⟩) (λbu=>?_);refine ep ?_;refine Z6 (λK F=>?_);go_simp
   refine(Nz.o _ (Ze _)).mono ?_;rintro e E⟨rfl,aB⟩;have I:=(Ze wr).trans (aB.mono (Y0 _));have e0:=(I.cell (p:=⟨w.heap.size,0,none⟩) NB).trans l0;have e2:=(I.cell (p:=⟨C.mb,2,none⟩) lP).trans hr2;refine F _ _ ⟨e0,e2⟩ ?_;clear F K;have cL:=I.size;have dp:=Z2 oM.o λg hg=>I.block g (Y9 oM.o g hg).2;have dU:=lh dp;have qE:=lh I;have ND:E.frozen? ⟨C.mb,2,none⟩=false:=(Yn (I.block _ lP)).trans bz;clear aB I dp;refine Z6 (λK F=>?_);go_simp
   have Be:w.heap.size<E.heap.size:=O'
   have wM:C.mb<E.heap.size:=O'
   refine F _ _ ⟨(Zb Be).trans e0,(Zb wM).trans e2⟩ ?_;clear F K;refine Z6 (λK F=>?_);refine step_append_lies _ Po (.tmp 104) (.tmp 107) 26 Po 0 9 i0 (.string ByteArray.empty) 1 16 Tryz.underlying26 hi aD bo bT rfl Pa rv Z xs Po (dU.o.alloc _) ⟨E.heap.size,0,none⟩ 1 1 [.string jt] Po rfl (λj u hu=>cell_one_new E _ _ j u hu) Pj Pa Pc O' O' (E.heap.size+1) Pg ?_;intro gg cap W5 lK gT qt Bf
   have wN:∀b o,b<E.heap.size->rv.ownBlock≠some b->W5.cell? ⟨b,o,none⟩=E.cell? ⟨b,o,none⟩:=λb o ai ax=>(gT.cell_far ⟨b,o,none⟩ Pe (λe=>ax e.symm)).trans (Zb ai);have OY:W5.frozen? ⟨C.mb,2,none⟩=false:=(gT.frozen_far ⟨C.mb,2,none⟩ Pe (λe=>d9 e.symm)).trans ((RH wM).trans ND);have e5:=(wN _ 2 wM d9).trans e2;refine F _ _ ⟨(wN _ 0 Be NC).trans e0,e5⟩ ?_;clear F K;simp only[Act.put,zA,zB,zC];have HG:=lh gT;have HW:=lh lK;have iK:=lh qt;have kM:=lh Bf
   clear gT lK qt Bf wN;refine Z0 ?_;have hg:(M1.row 0).ownBlock=some gg∨wr.heap.size<=gg:=by
    rw[<-Kk.o];rcases iK.o with h|h;·exact .inl h
    .exact .inr O'
   obtain⟨s3,mY⟩:∃s3:MSt,s3={s with log:=s.log++[jt]}:=⟨_,rfl⟩
   have ae:W5.ownsRow 0 (mK 0) (mZ 0) (.slice (some ⟨gg,0,none⟩) (Z+1) cap) (jS s3 M1.cl 0) (nc s3 M1.cl 0):=by
    have hw:=HW.o;rw[oN.o]at hw;rw[mY];show W5.ownsRow 0 9 1 _ (s.log++[jt]).length ((s.log++[jt]).map Value.string);rw[Yi,Yl,<-bQ.o];exact hw
   obtain⟨M2,aQ,aq⟩:=Gs.o.push (s':=s3) (cl':=M1.cl) Pa (qE.o.trans ((Z1 E (.cells #[.string jt] 9)).mono qE.o.size)) (Kk.o▸HG.o) hg kM.o ae
    (fun j hj aK => by rw [mY]; match j, hj with
     |0,_=>exact absurd rfl aK
     |1,_=>exact⟨rfl,rfl⟩
     |2,_=>exact⟨rfl,rfl⟩
     |3,_=>exact⟨rfl,rfl⟩) (by rw[mY]) (by rw[mY];rfl) (by rw[mY];exact Gs.o.clos) Gs.o.trees
   have aQ:MAt C M2 (W5.setCell ⟨C.mb,2,none⟩ (.slice (some ⟨gg,0,none⟩) (Z+1) cap)) s3:=aQ;have aq:MFr M1 M2 wr (W5.setCell ⟨C.mb,2,none⟩ (.slice (some ⟨gg,0,none⟩) (Z+1) cap)):=aq;obtain⟨W6,CV⟩:=zX (W5.setCell ⟨C.mb,2,none⟩ (.slice (some ⟨gg,0,none⟩) (Z+1) cap))
   rw[<-CV]at aQ aq;have tI:=lh CV;have Ax:=lh aQ;have mh:=lh (yD.o.trans aq);have jJ:RR=(s3,.ok LVal.zero):=by rw[bD.o,mY]
   have NF:=lh jJ;obtain⟨q0,q1,q2,z0,z1,z2⟩:=(ar.o.fr mh.o).six;rw[CV]at q0 q1 q2 z0 z1 z2;clear aQ aq CV jJ mY ae hg;go_wp2_with fail
   simp only[<-tI.o]at q0 q1 q2 ⊢;refine Ny.o (.tuple #[.agg #[vI 0,vI 0,.string ⟨#[]⟩],.nilIface]) _ _ ?_ rfl ?_;·simp[results,Tryz.results131,go_sem,q0,q1,q2]
   .rw[NF.o];exact al.fine ar.o bJ.o Ax.o mh.o
end
section
variable {C:RCtx}{M M1:MRep}{w z W:World}{s:MSt}{B:Nat}{a x0:ATree}{l:List ATree}{V:VF}{D:DF}{b sc:Int}{fr:Frm}{d:Nat}{A:Act}{K:Act->World->Prop}{vs:List LVal}{v:Value}{code:Int}{RR:MSt×Except Er LVal}
theorem Zx7:dX [1,1,1,1,1,1,1,0]=Code.block 2 (dX [1,1,1,1,1,1,1,0,0]):=by kernel_rfl
theorem Zxf:dX [1,1,1,1,1,1,1,0,0]=Code.seq (dX [1,1,1,1,1,1,1,0,0,0]) (Code.cond (.tmp 76) (dX [1,1,1,1,1,1,1,0,0,1,0]) (dX [1,1,1,1,1,1,1,0,0,1,1])):=by kernel_rfl
theorem Zwv:dX [1,1,1,1,1,1,1,0,0,1,1]=Code.seq (dX [1,1,1,1,1,1,1,0,0,1,1,0]) (Code.cond (.tmp 81) (dX [1,1,1,1,1,1,1,0,0,1,1,1,0]) (dX [1,1,1,1,1,1,1,0,0,1,1,1,1])):=by kernel_rfl
theorem Zo5:dX []=Code.seq (dX [0]) (Code.seq (dX [1,0]) (Code.seq (dX [1,1,0]) (Code.seq (dX [1,1,1,0]) (Code.seq (dX [1,1,1,1,0]) (Code.seq (dX [1,1,1,1,1,0]) (Code.seq (dX [1,1,1,1,1,1,0]) (Code.seq (dX [1,1,1,1,1,1,1,0]) (dX [1,1,1,1,1,1,1,1])))))))):=by kernel_rfl
theorem Zcw{D:DF}{n:NT}:UB D n sc fr code vs s =
 if code=0 then(s,.error (.thr (.say wh)))
 else if code=1 then(({s with log:=s.log++[UR (vs.map s.H.shown)]}:MSt),.ok LVal.zero)
 else if code=2∧vs=[]then(s,.ok LVal.zero)
 else if code=2∧(vs.headD LVal.zero).kind≠4 then(s,.ok (vs.headD LVal.zero))
 else if s.calls=40 then(s,.error (.thr (.say Sp)))
 else TO s (Uf D n sc fr code vs {s with calls:=s.calls+1}):=by
 unfold UB;split;·rfl
 split;·rfl
 split;·rfl
 split;·rfl
 split<;>rfl
theorem Zn7(O:F9 C.w0)(hc:CaC C M w z a x0 l B fr)(E:MAt C M1 W s)(F:MFr M M1 z W)(hI:Inv s (d+1))(ae:∃wA,VRow C M1 wA W v vs)(U:∀u∈vs,VQ s u)(hl:vs.length<=1500)
 (g:RR=UB D (a.nt C.N) sc fr code vs s)(lI:FrA 214 (Sm C w a sc [(12,v),(17,vI code)]) [] A)
 (HK:∀A',FrA 214 (Sm C w a sc [(12,v),(17,vI code)]) [] A'->code≠0->code≠1->(code=2->∃u l',vs=u::l')->(RR=if s.calls=40 then(s,.error (.thr (.say Sp)))else TO s (Uf D (a.nt C.N) sc fr code vs {s with calls:=s.calls+1}))->K A' W) :
 (dX [1,1,1,1,1,1,1,0]).wp Tryz.prog (Exit.then K (Ys Tryz.prog Tryz.f131 (λe w'=>al C M w RR e w'))) A W:=by
 rw[Zcw]at g;obtain⟨wA,I⟩:=ae;obtain⟨pv,cv,X,jT,iT,Y⟩:=I.form;obtain⟨n,m⟩:=zX vs.length
 have J:v=.slice pv n cv:=by rw[m];exact X
 have Z:VRow C M1 wA W (.slice pv n cv) vs:=J▸I;rw[<-m]at jT hl;have ar:=lh hc.lr;have bJ:=lh hc.below;have HM:=lh E;have HF:=lh F;have eg:=lh HK;have pH:=lh m;rw[J]at lI eg;unfold Sm at lI;obtain⟨xt,rfl,e1,e2,e4,e7,e8,lJ,AZ,-⟩:=YA lI;rw[e1,e2,e4,e7,e8,lJ,AZ];clear e1 e2 e4 e7 e8 lJ AZ lI;by_cases o:code=0
 .rw[Y5 o]at g;have eR:=lh g;have mD:=KB E wh;simp only[wh]at mD;have uO:=lh mD;subst o;clear O hc E F hI I U hl g HK X J mD Y m Z eg;conv=>arg 2;whnf
  go_wp2_with fail
  refine uO.o.mono ?_;rintro e w5⟨oY,rfl,ra,eS⟩;have xq:=lh (show ak C M1 w5 (.thr (.say wh)) oY from ra);exact ZM
 rw[Y3 o]at g;by_cases p:code=1
 .rw[Y5 p]at g;have eR:=lh g;have Cd:=lh (λ(A':Act) (Q:Exit->Act->World->Prop)=>Znn (A:=A') (Q:=Q) (wA:=wA) (sc:=sc) O hc E F hI Z U (by rw[<-m];exact hl) g);subst p;clear O hc E F hI I U hl g HK X J Y m Z eg o;rw[Zx7];refine wp_block ?_;rw[Zxf];refine dh ?_;intro K HK;go_wp2;refine HK.o _ _ ?_;clear HK K;refine wp_cond_false Po ?_;rw[Zwv];refine dh ?_;intro K HK;go_wp2;refine HK.o _ _ ?_;clear HK;refine wp_cond_true Po ?_
  refine Cd.o _ _ ⟨rfl,⟨rfl,rfl,rfl,rfl,rfl,rfl,trivial⟩,rfl⟩ (λ_ _ d _ _ h=>False.elim h) (λy a' w' g1 g2 g3=>?_);show Go.Leaves _ _ _ _ a'.defers .returning w';rw[g2];exact⟨y,g1,g3⟩
 rw[Y3 p]at g;have io:=hI;by_cases h2:code=2
 .subst h2;rcases rB:vs with _|⟨u,l'⟩
  .rw[rB]at g;have am:RR=(s,.ok LVal.zero):=by rw[g,Y5 ⟨rfl,rfl⟩]
   have eR:=lh am;have hn0:n=0:=by rw[m,rB];rfl
   subst hn0;obtain⟨q0,q1,q2,z0,z1,z2⟩:=(ar.o.fr HF.o).six;clear O hc E F hI I U hl g HK X J Y m Z eg o p am io rB;conv=>arg 2;whnf
   go_wp2_with fail
   refine⟨.tuple #[.agg #[vI 0,vI 0,.string ⟨#[]⟩],.nilIface],?_,?_⟩;·simp[results,Tryz.results131,go_sem,q0,q1,q2]
   .rw[eR.o];exact al.fine ar.o bJ.o HM.o HF.o
  .have iY:0<n:=by rw[m,rB];simp
   have cG:(n==0)=false:=Pe
   have OZ:decide (n=0)=false:=Pe
   rw[rB]at g;rw[Y3 (λh=>by cases h.2)]at g;simp only[List.headD_cons]at g;obtain⟨gv,sP,-,-,a0,a1,a2⟩:=Y 0 u (by rw[rB];rfl);subst sP;rw[Nat.zero_mul]at a0 a1 a2;simp only[Nat.zero_add]at a1 a2;by_cases gz:u.kind=4
   .rw[Y3 (λh=>h.2 gz)]at g;have eR:=lh g;rw[gz]at a0;have Kl:=lh rB;clear O hc E F hI I U hl g HK X J Y m Z o p io rB;conv=>arg 2;whnf
    go_wp2_with fail
    exact eg.o _ ⟨rfl,⟨rfl,rfl,rfl,rfl,rfl,rfl,rfl,trivial⟩,rfl⟩ Pa Pa (λ_=>⟨u,l',Kl.o⟩) (by rw[eR.o,Kl.o])
   .have am:RR=(s,.ok u):=by rw[g,Y5 ⟨by trivial,gz⟩]
    have eR:=lh am;have sW:(u.kind==4)=false:=by simp;exact gz
    have Km:decide (u.kind=4)=false:=by simp;exact gz
    obtain⟨uk,un,ut⟩:=u;simp only at a0 a1 a2 gz sW Km;obtain⟨q0,q1,q2,z0,z1,z2⟩:=(ar.o.fr HF.o).six;clear O hc E F hI I U hl g HK X J Y m Z eg o p io rB am;conv=>arg 2;whnf
    go_wp2_with fail
    refine⟨.tuple #[.agg #[vI uk,vI un,.string ut],.nilIface],?_,?_⟩;·simp[results,Tryz.results131,go_sem,q0,q1,q2]
    .rw[eR.o];exact al.fine ar.o bJ.o HM.o HF.o
 rw[Y3 (λh=>h2 h.1),Y3 (λh=>h2 h.1)]at g;have eR:=lh g;have d0:(code==0)=false:=by simp;exact o
 have Lv:decide (code=0)=false:=by simp;exact o
 have d1:(code==1)=false:=by simp;exact p
 have G9:decide (code=1)=false:=by simp;exact p
 have d2:(code==2)=false:=by simp;exact h2
 have BR:decide (code=2)=false:=by simp;exact h2
 have km:=lh o;have tN:=lh p;have Af:=lh h2;clear O hc E F hI I U hl g HK X J Y m Z o p h2 io;conv=>arg 2;whnf
 go_wp2_with fail
 exact eg.o _ ⟨rfl,⟨rfl,rfl,rfl,rfl,rfl,rfl,rfl,trivial⟩,rfl⟩ km.o tN.o (λh=>absurd h Af.o) eR.o
theorem Zkm(gK:F9 C.w0)(hW:Words C.w0)(hL:B7 C.w0 C.w0.heap.size)(hC:C.Ok)(cA:xH C V b)(hV:VH V b)(cZ:Dl C D b)(hD:DH D b)(h:MAt C M w s)(hI:Inv s (d+17000))(hA:FAt s sc fr)(hb:b<=s.steps)(hs:s.steps<=20000)(ha:TreeAt w B a)(hf:a.free M)(cB:a.kids=x0::l)
 (w0:(x0.nt C.N).wf .v)(m0:(x0.nt C.N).tree.many<=1500)(hl:l.length<=1500)(eV:∀k∈l,(k.nt C.N).wf .v∧(k.nt C.N).tree.many<=1500) :
 Calls Tryz.prog 131 #[vP C.mb,a.ptr,vI sc,.agg #[.bool fr.strict,vI fr.vars]] w λe w'=>al C M w (UG V D (a.nt C.N) sc fr s) e w':=by
 obtain⟨RR,o⟩:=zX (UG V D (a.nt C.N) sc fr s)
 rw[<-o];unfold UG at o;have e0:(a.nt C.N).kid 0=x0.nt C.N:=sp Qe;have U:(a.nt C.N).kids.tail=l.map (ATree.nt C.N):=by rw[Zq,yn,cB];rfl
 rw[e0,U]at o;obtain⟨z,hz,y,lm,lf,lr⟩:=Zsj h fr;have aE:=h.below y;have hc:CaC C M w z a x0 l B fr:=⟨hC,h.old.size,y,lm,lf,lr,ha.bel y,hf,cB⟩
 obtain⟨kg,kc,ct,aR,hk⟩:=hc.two;obtain⟨q,hq⟩:=zX l.length
 rw[<-hq]at ct hk;have bF:=lh (cA.from aE hI hA hb hs w0 m0 (hc.kid (List.mem_cons_self)).1 (hc.kid (List.mem_cons_self)).2);have aj:=(hV (x0.nt C.N) sc fr s _ w0 m0 hI hA hb hs).1;obtain⟨r1,bA⟩:=zX (V (x0.nt C.N) sc fr s)
 unfold gE at o;rw[<-bA]at bF aj o;have iP:=lh hc;have bR:=lh aj;have HR:=lh o;have HS:=lh (show∀g M',MFr M M' z g->vC g w.heap.size 0 (vP C.mb)∧vC g (w.heap.size+1) 0 (.bool fr.strict)∧vC g (w.heap.size+1) 1 (vI fr.vars)∧vC g a.b 3 (.slice (some ⟨kg,0,none⟩) (q+1) kc)∧vC g kg 0 (vP x0.b)from λg M' f=>by
  obtain⟨g0,g1,g2,g3,g4,-⟩:=hk M' g f;exact⟨g0,g1,g2,g3,g4⟩)
 have ar:=lh lr;have bJ:=lh y;have HM:=lh aE;have HO:=lh h.old.size;have HE:=lh y.size;have ii:=lh hA;have HB:=lh (And.intro hb hs);have oS:=lh cA;have HV:=lh hV;have iX:=lh cZ;have HD:=lh hD;have jv:=lh eV;have zc:=lh hl;have kA:=lh (And.intro gK (And.intro hW hL));have HZ:=lh hz;have O0:=lh lm;have hn0:0<q+1:=O'
 clear gK hW hL hC cA hV cZ hD h hI hA hb hs ha hf cB w0 m0 hl eV e0 U hz y lm lf lr aE hc hk hq aj bA o;unfold ATree.ptr;refine Zas (c:=dX []) Tryz.func131 Zqb ?_;simp only[Tryz.ntmps131,List.size_toArray,List.length_cons,List.length_nil,Nat.reduceAdd,Nat.reduceSub,Array.replicate_succ,Array.replicate_zero,List.push_toArray,List.append_toArray,List.nil_append,List.cons_append];rw[Zo5];refine dh ?_;intro K HK;go_wp2;rw[<-HZ.o];refine HK.o _ _ ?_;clear HK K;refine dh ?_;intro K HK
 refine Z1y (.take 0 (.take 1 (.take 2 (.take 3 (.take 4 (.take 5 (.take 6 (.take 7 (.take 8 (.two 9 (.take 10 (.take 11 (.take 12 (.go 13 (.go 14 (.go 15 (.nil))))))) 13 (.go 9 (.take 10 (.take 11 (.take 12 (.go 14 (.go 15 (.nil))))))))))))))))) 14 (λW=>vC W w.heap.size 0 (vP C.mb)∧vC W (w.heap.size+1) 0 (.bool fr.strict)∧vC W (w.heap.size+1) 1 (vI fr.vars)∧vC W a.b 3 (.slice (some ⟨kg,0,none⟩) (q+1) kc)∧vC W kg 0 (vP x0.b)) Pb Pb (λ_ _ d _ _ h=>False.elim h) (HS.o _ _ (MFr.drew (.refl _ _))) ?_
 refine lM ?_;refine Zt ?_;apply L4 (H:=pV C w M z r1);·exact RD HS bF HE.o HO.o
 .exact Hu HS bF HM HE.o HO.o
 intro W1 p1 M1 E F t1 bU p;refine HK.o _ _ ?_;clear HK K;have bw:=lh p.1.2.1;have bZ:=lh p.1.1;have j7:=lh p.2;obtain⟨q0,q1,q2,z0,z1,z2⟩:=(ar.o.fr bw.o).six;obtain⟨s1,jw⟩:=r1;cases jw with
 | error I =>
   have he:ak C M1 W1 I bU:=p.1.2.2;have u:RR=(s1,.error I):=HR.o;have eR:=lh u;obtain⟨T1,P1,rfl,hP⟩:=he.ne;have ej:=lh he;clear p he HR u;refine wp_seq_k (λK hK=>?_);have HK:=lh hK;clear hK;clear HK;conv=>arg 2;whnf
   go_wp2_with fail
   refine⟨.tuple #[.agg #[vI 0,vI 0,.string ⟨#[]⟩],.iface T1 (.pointer P1)],?_,?_⟩;·simp[results,Tryz.results131,go_sem,q0,q1,q2]
   .rw[eR.o];exact al.err ar.o bJ.o bZ.o bw.o ej.o
 | ok v1 =>
   obtain⟨rfl,rfl⟩:v1=⟨E,F,t1⟩∧bU=.nilIface:=p.1.2.2;have dF:RR=gE (Sn V sc fr (l.map (ATree.nt C.N))) (λargs s=>UB D (a.nt C.N) sc fr (codeOf s ⟨E,F,t1⟩) args s) s1:=HR.o;obtain⟨i1,I,c1,ey,i2⟩:=bR.o;have eL:=lh i1;have lg:=lh I;have dS:=lh (And.intro (show b<=s1.steps from Int.le_trans HB.o.1 I.steps) i2);have gA:=lh dF;clear HR p dF i1 I c1 ey i2 q0 q1 q2 z0 z1 z2;refine dh ?_;intro K HK;go_wp2;refine HK.o _ _ ?_;clear HK K;refine dh ?_;intro K HK;go_wp2;refine HK.o _ _ ?_;clear HK K
   refine wp_seq_k (λK hK=>?_);have HK:=lh hK;clear hK;refine Zro (d:=d+17000) oS.o HV.o iP.o bZ.o bw.o eL.o (ii.o.ext lg.o) dS.o.1 dS.o.2 jv.o zc.o gA.o (v10:=(vP p1)) ⟨rfl,⟨rfl,rfl,rfl,rfl,rfl,rfl,rfl,trivial⟩,rfl⟩ (λA2 W2 M2 s2 v2 Y Bg aQ aq nM Bh wZ Gt eC Bi Bj u=>?_);refine HK.o _ _ ?_;clear HK K;have g9:=lh (j7.o.fr aq);have aZ:=lh (bw.o.trans aq);have bW:=lh aQ;have oK:=lh wZ;have oX:=lh ((ii.o.ext lg.o).ext Gt)
   have aO:=lh (And.intro (show b<=s2.steps from Int.le_trans dS.o.1 Gt.steps) eC);have Gu:=lh (show∃wA,VRow C M2 wA W2 v2 Y from⟨_,nM⟩);have Bk:=lh Bj;have kq:=lh (show Y.length<=1500 by rw[Bh];exact zc.o);obtain⟨code,aw⟩:=zX (codeOf s2 ⟨E,F,t1⟩)
   have u:RR=UB D (a.nt C.N) sc fr code Y s2:=by rw[u,aw]
   have bD:=lh u;have Ba:=lh (show 0<=code∧code<3+s2.clos.length by
    rw[aw];unfold codeOf;split;·exact Zml wZ
    .omega)
   have J:=aw;unfold codeOf at J;have ic:=(⟨_,nM⟩:∃wA,VRow C M2 wA W2 v2 Y)
   obtain⟨pv,nv,O,rfl⟩:∃pv nv O,v2=.slice pv nv O:=by
    obtain⟨pv,O,h,-⟩:=nM.form;exact⟨pv,_,O,h⟩
   unfold Sm at Bg;obtain⟨xt,rfl,U,e2,e4,e7,e8,ia,lJ,-⟩:=YA Bg;rw[U,e2,e4,e7,e8,ia,lJ];clear U e2 e4 e7 e8 ia lJ Bg aQ aq nM Bh wZ Gt eC Bi Bj u ic aw;refine dh ?_;intro K HK;go_wp2;refine HK.o _ _ ?_;clear HK K;obtain⟨b0,b1,b2,-,-,-⟩:=g9.o.six
   have uz:=lh (show∀A3 W3,FrA 214 (Sm C w a sc [(12,.slice pv nv O),(17,vI code)]) [] A3->Below W2.heap.size W2 W3->(Code.seq (dX [1,1,1,1,1,1,1,0]) (dX [1,1,1,1,1,1,1,1])).wp Tryz.prog (Ys Tryz.prog Tryz.f131 (λe w'=>al C M w RR e w')) A3 W3 from λA3 W3 uf Z=>by
    refine wp_seq_k (λK hK=>?_);have Bm:∃wA,VRow C M2 wA W3 (.slice pv nv O) Y:=by
     obtain⟨wA,h⟩:=Gu.o;exact⟨wA,h.fr (.of_below Z)⟩
    refine Zn7 (D:=D) (d:=d+16999) kA.o.1 iP.o (bW.o.below Z) (aZ.o.trans (.of_below Z)) oK.o Bm Bk.o kq.o bD.o uf (λA4 ug h0 h1 h2 eZ=>?_);refine hK _ _ ?_;exact Zpk (d:=d) kA.o.1 kA.o.2.1 kA.o.2.2 iX.o HD.o iP.o (bW.o.below Z) (aZ.o.trans (.of_below Z)) oK.o oX.o aO.o.1 aO.o.2 Bm Bk.o kq.o ⟨Ba.o.1,Ba.o.2,h0,h1⟩ h2 eZ ug)
   refine dh ?_;intro K HK;by_cases sW:E=5
   .subst sW;rw[Y5 rfl]at J;have Gv:=Zv3 bW.o.drew F;rw[<-J]at Gv;have qr:=lh Gv
    have CO:=lh (show∀g M',MFr M2 M' W2 g->vC g w.heap.size 0 (vP C.mb)∧vC g p1 1 (vI F)from
     λg M' f=>⟨(HS.o g M' (aZ.o.trans f)).1,(g9.o.fr f).cell rfl⟩)
    clear Gv J;go_wp2_with fail
    refine Za [(true,0),(true,1),(true,2),(true,3),(true,4)] [5,6] (λW=>vC W w.heap.size 0 (vP C.mb)∧vC W p1 1 (vI F)) Pb Pb (λ_ _ d _ _ h=>False.elim h) (CO.o _ _ (.drew (.refl _ _))) (λbu=>?_);refine ep ?_;refine Z0 ?_;go_wp2_with fail
    refine qr.o.mono ?_;rintro e W5⟨rfl,Kn⟩;rw[Kn];clear Kn W5;go_wp2_with fail
    refine HK.o _ _ ?_;exact uz.o _ _ ⟨rfl,⟨rfl,rfl,rfl,rfl,rfl,rfl,rfl,trivial⟩,rfl⟩ (Ze _)
   .rw[Y3 sW]at J;subst J;have Km:(E==5)=false:=by simp;exact sW
    have O1:decide (E=5)=false:=by simp;exact sW
    go_wp2_with fail
    refine HK.o _ _ ?_;exact uz.o _ _ ⟨rfl,⟨rfl,rfl,rfl,rfl,rfl,rfl,rfl,trivial⟩,rfl⟩ (Y2 _ _)
end
section
variable {C:RCtx}{M M':MRep}{w w':World}{s s':MSt}{B:Nat}{a:ATree}{V:VF}{D:DF}{b:Int}{sc:Int}{fr:Frm}{d:Nat}
theorem Zs1(hC:C.Ok)(h:MAt C M w s)(hI:Inv s d)(ha:TreeAt w B a)(hf:a.free M)(hs:s.steps=20000){g:Nat} :
 Calls Tryz.prog 45 #[vP C.mb,a.ptr,vI sc,.agg #[.bool fr.strict,vI fr.vars]] w λe w'=>iz C M w (wI V D g (a.nt C.N) sc fr s) e w':=by
 refine I4 ?_;intro s1 aG bY hst jF bc dt du dv z0 aD;rw[<-aD]at bc dt du dv;refine o9 ?_;intro cF f5 y5 aE aY;rw[<-aG]at aE;refine pN ?_;intro z hz;rw[<-hz]at aE aY;refine Kw ?_;intro eT aJ bz lf lr ln g5 c0;rw[aD]at f5 y5;rw[hz,aD]at g5 c0;have m:wI V D g (a.nt C.N) sc fr s=(s1,.error .stop):=by
  unfold wI yk;rw[Y5 O',aG];rfl
 rw[m];refine Zvq ?_;intro HZ cY dC ar bM bQ BC HM m0 m1 m2 q0 q1 q2 z0 z1 z2;clear hz aD bc cF aE aY eT aJ bz dt du dv lf lr ln ha hf h hI aG m hs c0;unfold ATree.ptr;go_enter Tryz.func45,Tryz.ntmps45
 go_wp2_with fail
 rw[<-HZ.o];clear f5 y5 g5;unfold oj at cY;refine oi [(true,0),(true,1),(true,2),(false,3)] [4] (λW=>vC W (w.heap.size+1+1) 0 (vI 0)∧vC W (w.heap.size+1+1) 1 (vI 0)∧vC W (w.heap.size+1+1) 2 (.string ⟨#[]⟩)∧W.cell? ⟨0,0,none⟩=some (.iface 241 (.pointer (some C.eb)))) ⟨m0,m1,m2,cY⟩ (λu=>?_);refine Zuy ?_;intro K hK aX;have o:=iz.err' (b:=false) (k:=0) (n:=0) (t:=⟨#[]⟩) ar.o bM.o HM.o.drew (.drew (.refl _ _)) (show ak C M z.drew .stop (oj C.eb)from rfl)
 refine hK _ _ ⟨aX.cell rfl,aX.cell rfl,aX.cell rfl,?_⟩ ?_;·exact X9
 clear hK K aX;have p:=lh o;clear o;refine Z0 ?_;go_wp2;refine bodyPost_ret (v:=.tuple #[.bool false,.agg #[vI 0,vI 0,.string ⟨#[]⟩],.iface 241 (.pointer (some C.eb))]) ?_ rfl ?_;·simp[results,Tryz.results45,go_sem,q0,q1,q2]
 .exact p.o
end
section
variable {C:RCtx}{M M':MRep}{w w':World}{s s':MSt}{B:Nat}{a:ATree}{V:VF}{D:DF}{b:Int}{sc:Int}{fr:Frm}{d:Nat}
theorem Zxn(cA:xH C V b)(hV:VH V b)(h:MAt C M w s)(hI:Inv s 0)(Y:d+1<=20000)(hA:FAt s sc fr)(hb:b<=s.steps+1)(hs:s.steps<20000)(ha:TreeAt w B a)(hf:a.free M){x y:ATree}(cB:a.kids=[x,y])(wx:(x.nt C.N).wf .v)(wy:(y.nt C.N).wf .v)(mx:(x.nt C.N).tree.many<=1500)(my:(y.nt C.N).tree.many<=1500)(hk:a.kind=25∨a.kind=26) :
 Calls Tryz.prog 77 #[vP C.mb,a.ptr,vI sc,.agg #[.bool fr.strict,vI fr.vars]] w λe w'=>al C M w (yk (x4 V D (a.nt C.N) sc fr) s) e w':=by
 refine I4 ?_;intro s1 aG bY hst jF bc dt du dv z0 aD;rw[<-aD]at bc dt du dv;refine o9 ?_;intro cF f5 y5 aE aY;rw[<-aG]at aE;refine pN ?_;intro z hz;rw[<-hz]at aE aY;refine Kw ?_;intro eT aJ bz lf lr ln g5 c0;rw[aD]at f5 y5;rw[hz,aD]at g5 c0;refine NS ?_;intro hR R aS;rw[<-aS];rw[<-aS]at hR;clear aS;refine L3 ?_;intro dC HZ ar bQ dH bM HM fI ea HO HE;refine SE ?_;intro fS dP eC;have ai:b<=s1.steps:=O'
 have jc:s1.steps<=20000:=O'
 unfold x4 at hR;have g:¬a.kind=17∧¬a.kind=18∧¬(a.kind=19∨a.kind=20)∧¬a.kind=21∧¬a.kind=22∧¬a.kind=23∧¬a.kind=24:=O'
 rw[Zc,Y3 g.1,Y3 g.2.1,Y3 g.2.2.1,Y3 g.2.2.2.1,Y3 g.2.2.2.2.1,Y3 g.2.2.2.2.2.1,Y3 g.2.2.2.2.2.2,Y5 hk]at hR;obtain⟨kg,kc,c3,I,g,bO,ba,eU⟩:=aJ.row bz PH;rw[cB]at c3 I bO;refine Zr1 ?_;intro ee eD k0 k1;simp only[List.length_cons,List.length_nil]at c3 I;have J:(a.nt C.N).kid 0=x.nt C.N:=sp Qe;have O:(a.nt C.N).kid 1=y.nt C.N:=sp Qe;rw[J,O]at hR;refine X5 ?_;intro ap r1 bA bF aj;unfold gE at hR;rw[<-bA]at bF aj hR
 have bR:=lh aj;have HR:=lh hR;have HS:=lh ap;have ii:=lh (hA.ext dP);have HB:=lh ai;have po:=lh (aJ.kid eD);have oR:=lh (bz.kid eD);have oS:=lh cA;have HV:=lh hV;clear hz aD bc cF aE aY eT aJ bz dt du dv lf lr ln ha hf h hI aG fS dP eC ai jc ap c3 k0 k1 bO cB J O bA aj hR hA cA hV ee eD g;unfold ATree.ptr;rcases hk with hk|hk
 all_goals
  rw[hk]at c0 HS HR;go_enter Tryz.func77,Tryz.ntmps77
  go_wp2_with fail
  rw[<-HZ.o];clear f5 y5 g5 c0
 .skip
  refine uY (.take 0 (.take 1 (.take 2 (.take 3 (.take 4 (.take 5 (.take 6 (.take 7 (.take 8 (.two 9 (.take 10 (.take 11 (.take 12 (.go 13 (.go 14 (.go 15 (.nil))))))) 13 (.go 9 (.take 10 (.take 11 (.take 12 (.go 14 (.go 15 (.nil))))))))))))))))) 14 (λW=>vC W w.heap.size 0 (.bool fr.strict)∧vC W w.heap.size 1 (vI fr.vars)∧vC W a.b 0 (vI 25)∧vC W a.b 3 (.slice (some ⟨kg,0,none⟩) 2 kc)∧vC W kg 0 (vP x.b)∧vC W kg 1 (vP y.b)) (HS.o _ _ (MFr.drew (.refl _ _))) ?_
  refine lM ?_;refine Zt ?_;apply L4 (H:=pV C w M z r1);·exact RD HS bF HE.o HO.o
  .exact Hu HS bF HM HE.o HO.o
  intro W1 p1 M1 k1 n1 t1 bU ai
  have dS:=lh (show∀W M',MFr M1 M' W1 W->vC W p1 0 (vI k1)∧vC W p1 1 (vI n1)∧vC W p1 2 (.string t1)∧vC W a.b 0 (vI 25)from
   λW M' f=>⟨(ai.2.fr f).cell rfl,(ai.2.fr f).cell rfl,(ai.2.fr f).cell rfl,(HS.o W M' (ai.1.2.1.trans f)).2.2.1⟩)
  obtain⟨s2,q1⟩:=r1;cases q1 with
  | error x1 =>
    refine Wk ?_;intro he av hR;simp only at hR;subst hR;obtain⟨T1,P1,rfl,U⟩:=he.ne;have ej:=lh he;have bw:=lh av.o.1.2.1;obtain⟨b0,b1,b2,-⟩:=dS.o W1 M1 (.refl _ _);clear ai he HR;go_wp2_with fail
    refine Zum ?_;intro bu;exact Aai
  | ok u =>
    obtain⟨rfl,rfl⟩:u=⟨k1,n1,t1⟩∧bU=.nilIface:=ai.1.2.2;refine Wl ?_;intro i1 x1 ey i2 F1 ef ty hst r2 hr2 bS bC;rw[<-hr2]at bS bC;have o:=HR.o;simp only at o;have hR:R=if(⟨k1,n1,t1⟩:LVal).true=((25:Int)==25:Bool)then(s2,.ok ⟨k1,n1,t1⟩)else r2:=by
     rw[o,hr2];split<;>rfl
    clear o;have bw:=lh F1;have bZ:=lh ef;obtain⟨E,p⟩:=zX ((⟨k1,n1,t1⟩:LVal).true)
    rw[<-p]at hR;have HT:=lh (λW=>Zci W ⟨k1,n1,t1⟩);simp only[LVal.agg]at HT;rw[<-p]at HT;have F:=lh (λW M' (f:MFr M1 M' W1 W)=>HS.o W M' (bw.o.trans f));have bD:=lh hR;clear ai i1 x1 ey i2 F1 ef ty hst hr2 hR HR p;cases E
    all_goals
     go_wp2_with fail
     refine Zum ?_;intro bu;refine Ztz ?_;intro W2 aO b0 b1 b2
    .have am:R=r2:=by have :=bD.o;simpa using this
     clear bD;subst am;have iW:=lh (λW M' (f:MFr M1 M' W2 W)=>F.o W M' ((MFr.of_below aO.o).trans f));have uJ:=lh (λW (hB:Below W2.heap.size W2 W)=>bS.o W (aO.o.trans (hB.mono aO.o.size)));go_wp2_with fail
     refine oi [(true,0),(true,1),(true,2),(true,3),(true,4),(true,5),(true,6),(true,7),(true,8),(false,9),(true,10),(true,11)] [12,13] (λW=>vC W w.heap.size 0 (.bool fr.strict)∧vC W w.heap.size 1 (vI fr.vars)∧vC W a.b 0 (vI 25)∧vC W a.b 3 (.slice (some ⟨kg,0,none⟩) 2 kc)∧vC W kg 0 (vP x.b)∧vC W kg 1 (vP y.b)) (iW.o _ _ (.drew (.refl _ _))) (λbu=>?_);exact X2
    .exact ZL
 .skip
  refine uY (.take 0 (.take 1 (.take 2 (.take 3 (.take 4 (.take 5 (.take 6 (.take 7 (.take 8 (.two 9 (.take 10 (.take 11 (.take 12 (.go 13 (.go 14 (.go 15 (.nil))))))) 13 (.go 9 (.take 10 (.take 11 (.take 12 (.go 14 (.go 15 (.nil))))))))))))))))) 14 (λW=>vC W w.heap.size 0 (.bool fr.strict)∧vC W w.heap.size 1 (vI fr.vars)∧vC W a.b 0 (vI 26)∧vC W a.b 3 (.slice (some ⟨kg,0,none⟩) 2 kc)∧vC W kg 0 (vP x.b)∧vC W kg 1 (vP y.b)) (HS.o _ _ (MFr.drew (.refl _ _))) ?_
  refine lM ?_;refine Zt ?_;apply L4 (H:=pV C w M z r1);·exact RD HS bF HE.o HO.o
  .exact Hu HS bF HM HE.o HO.o
  intro W1 p1 M1 k1 n1 t1 bU ai
  have dS:=lh (show∀W M',MFr M1 M' W1 W->vC W p1 0 (vI k1)∧vC W p1 1 (vI n1)∧vC W p1 2 (.string t1)∧vC W a.b 0 (vI 26)from
   λW M' f=>⟨(ai.2.fr f).cell rfl,(ai.2.fr f).cell rfl,(ai.2.fr f).cell rfl,(HS.o W M' (ai.1.2.1.trans f)).2.2.1⟩)
  obtain⟨s2,q1⟩:=r1;cases q1 with
  | error x1 =>
    refine Wk ?_;intro he av hR;simp only at hR;subst hR;obtain⟨T1,P1,rfl,U⟩:=he.ne;have ej:=lh he;have bw:=lh av.o.1.2.1;obtain⟨b0,b1,b2,-⟩:=dS.o W1 M1 (.refl _ _);clear ai he HR;go_wp2_with fail
    refine Zvl ?_;intro bu;exact Aai
  | ok u =>
    obtain⟨rfl,rfl⟩:u=⟨k1,n1,t1⟩∧bU=.nilIface:=ai.1.2.2;refine Wl ?_;intro i1 x1 ey i2 F1 ef ty hst r2 hr2 bS bC;rw[<-hr2]at bS bC;have o:=HR.o;simp only at o;have hR:R=if(⟨k1,n1,t1⟩:LVal).true=((26:Int)==25:Bool)then(s2,.ok ⟨k1,n1,t1⟩)else r2:=by
     rw[o,hr2];split<;>rfl
    clear o;have bw:=lh F1;have bZ:=lh ef;obtain⟨E,p⟩:=zX ((⟨k1,n1,t1⟩:LVal).true)
    rw[<-p]at hR;have HT:=lh (λW=>Zci W ⟨k1,n1,t1⟩);simp only[LVal.agg]at HT;rw[<-p]at HT;have F:=lh (λW M' (f:MFr M1 M' W1 W)=>HS.o W M' (bw.o.trans f));have bD:=lh hR;clear ai i1 x1 ey i2 F1 ef ty hst hr2 hR HR p;cases E
    all_goals
     go_wp2_with fail
     refine Zvl ?_;intro bu;refine Ztz ?_;intro W2 aO b0 b1 b2
    .exact ZL
    .have am:R=r2:=by have :=bD.o;simpa using this
     clear bD;subst am;have iW:=lh (λW M' (f:MFr M1 M' W2 W)=>F.o W M' ((MFr.of_below aO.o).trans f));have uJ:=lh (λW (hB:Below W2.heap.size W2 W)=>bS.o W (aO.o.trans (hB.mono aO.o.size)));go_wp2_with fail
     refine oi [(true,0),(true,1),(true,2),(true,3),(true,4),(true,5),(true,6),(true,7),(true,8),(false,9),(true,10),(true,11)] [12,13] (λW=>vC W w.heap.size 0 (.bool fr.strict)∧vC W w.heap.size 1 (vI fr.vars)∧vC W a.b 0 (vI 26)∧vC W a.b 3 (.slice (some ⟨kg,0,none⟩) 2 kc)∧vC W kg 0 (vP x.b)∧vC W kg 1 (vP y.b)) (iW.o _ _ (.drew (.refl _ _))) (λbu=>?_);exact X2
end
