import Derived.Test.YtkjdnecemhilpaaGreatDoorJ27
import Derived.Test.YtkjdnecemhilpaaGreatDoorJ28
set_option maxRecDepth 100000
set_option maxHeartbeats 20000000
set_option maxRecDepth 1000000
set_option linter.all false
namespace Go.Proofs.YtkjdnecemhilpaaGreatDoor
open Go Go.RowKit Go.Proofs.Tryz Tryz
section
variable {C:RCtx}{M M':MRep}{w w':kV}{s s':MSt}{B:Nat}{a:ATree}{V:VF}{D:DF}{b:Int}{sc:Int}{fr:Frm}{d:Nat}
def Zgd{D:DF}:∀l:List NT,wt D sc fr l (s,.error .stop)=(s,.error .stop)
 | []=>rfl
 |k::l=>rfl
def Zdt{D:DF}{k:NT}{l:List NT}{v:LVal}(h:k.kind≠13):wt D sc fr (k::l) (s,.error (.thr v))=match D (k.kid 0) sc fr s with
 |(s1,.ok (false,_))=>wt D sc fr l (s1,.error (.thr v))
 |x=>wt D sc fr l x:=by
 exact WW
def Zks{D:DF}{k:NT}{l:List NT}{r:Bool×LVal}(h:k.kind≠13):wt D sc fr (k::l) (s,.ok r)=match D (k.kid 0) sc fr s with
 |(s1,.ok (false,_))=>wt D sc fr l (s1,.ok r)
 |x=>wt D sc fr l x:=by
 exact WW
def Zow(hC:C.Ok)(oE:Tk C.w0)(cV:FR C D b)(hD:DH D b)(h:MAt C M w s)(hI:Inv s (d+4))(hA:FAt s sc fr)(hb:b<=s.steps)(hs:s.steps<=20000)(ha:TreeAt w B a)(hf:a.free M){x0:ATree}{l:List ATree}(cr:a.kids=x0::l)
 (w0:(x0.nt C.N).wf .s)(m0:(x0.nt C.N).tree.many<=1500)(hl:l.length<=2)(mC:1<=l.length)(fm:∀k∈l,(k.kind=13\/k.kind=14)/\∃c,k.kids=[c]/\(c.nt C.N).wf .s/\(c.nt C.N).tree.many<=1500) :
 kC 101 #[vP C.mb,a.ptr,vI sc,.agg #[.bool fr.strict,vI fr.vars]] w λe w'=>jm C M w (NH D (a.nt C.N) sc fr s) e w':=by
 obtain⟨R,hR⟩:=zX (NH D (a.nt C.N) sc fr s)
 rw[<-hR];unfold NH at hR;have e0:(a.nt C.N).kid 0=x0.nt C.N:=xX Q8;have e1:(a.nt C.N).kids.tail=l.map (ATree.nt C.N):=by rw[Zw,zI,cr];rfl
 rw[e0,e1]at hR;refine MP ?_;intro aR lf lr z hz;rw[<-hz]at aR lf lr;refine Pq ?_;intro aE aJ;obtain⟨q,hq⟩:=zX l.length
 obtain⟨kg,kc,c3,cB,aT,bN,aY,eZ⟩:=aJ.row hf QL;rw[cr]at c3 cB bN;have dY:x0∈a.kids:=QL
 have k0:=bN 0 x0 rfl;simp only[List.length_cons,<-hq]at c3 cB;have aq:∀W M',MFr M M' z W->vC W w.heap.size 0 (.bool fr.strict)/\vC W w.heap.size 1 (vI fr.vars)/\vC W a.b 3 (.slice (some ⟨kg,0,none⟩) (q+1) kc)/\vC W kg 0 (vP x0.b):=λW M' f=>⟨(lf.fr f).cell rfl,(lf.fr f).cell rfl,(f.cell aJ.lt hf.blk).trans c3,(f.cell aY eZ).trans k0⟩;obtain⟨r1,bB⟩:=zX (D (x0.nt C.N) sc fr s)
 have bG:=lh (cV.from aE hI hA hb hs w0 m0 (aJ.kid dY) (hf.kid dY));have am:=(hD (x0.nt C.N) sc fr s _ w0 m0 hI hA hb hs).1;rw[<-bB]at bG am hR;obtain⟨bL,HR,HS,J⟩:=gp (am.less (e:=d+2*q) Qe) hR aq lr;refine GR ?_;intro dC HBZ HM HO HE;obtain⟨gY,HB,iU,HD,qA,we⟩:=gw hA hb cV hD hC oE;refine Zzz ?_;intro jX;have re:=lh (show∀y∈l,TreeAt z B y/\y.free M from λy hy=>⟨aJ.kid Sc,hf.kid Sc⟩);have kL:=lh fm
 obtain⟨mL,HBZ,ft,yp,HQ,HZ⟩:=gw (Y4 h.old.size aR.size) aR aY eZ hq hz;have nq:1<=q/\q<=2:=Qe
 have d3:=(aq z M (.refl _ _)).2.2.1;clear hz aE lf lr aR aJ ha hf h hI hA hR cr e0 e1 c3 k0 bN dY aq bB am cV hD hb hs hC oE fm aY eZ hq hl mC;unfold ATree.ptr;go_enter func101,ntmps101
 go_wp2_with fail
 rw[<-HZ.o]
 refine v7 (.take 0 (.take 1 (.take 2 (.take 3 (.take 4 (.take 5 (.take 6 (.take 7 (.take 8 (.two 9 (.take 10 (.take 11 (.take 12 (.take 13 (.go 14 (.go 15 (.go 16 (.go 17 (.nil))))))))) 14 (.go 9 (.take 10 (.take 11 (.take 12 (.take 13 (.go 15 (.go 16 (.go 17 (.nil))))))))))))))))))) 16 (λW=>vC W w.heap.size 0 (.bool fr.strict)/\vC W w.heap.size 1 (vI fr.vars)/\vC W a.b 3 (.slice (some ⟨kg,0,none⟩) (q+1) kc)/\vC W kg 0 (vP x0.b)) (HS.o _ _ (MFr.drew (.refl _ _))) ?_
 refine ra ?_;refine Zu ?_;apply Ziz (H:=Lz C w M z r1);·exact kDA HS bG HE.o HO.o
 .exact AcQ HS bG HM HE.o HO.o
 intro W1 p1 M1 b1 k1 n1 t1 bQ ai;obtain⟨bA,bX,jY,qR⟩:=gp ai.1.2.1 ai.1.1 ai.2 ai.1.2.2;have e3:=(HS.o W1 M1 ai.1.2.1).2.2.1;have jG:p1≠w.heap.size+1:=by have h1:=ai.2.late;have h2:=J.o.lt;omega
 have hn0:0<q+1:=Qe
 have iW:(1:Int)<=((q+1:Nat):Int):=Qe
 have GS:2<=kc:=Qe
 clear ai d3;go_wp2_with fail
 go_loopw [11,13,41] (λbv ev i wr=>∃(k:Nat) (Mk:MRep) (rk:MSt×Except Er (Bool×LVal)) (I:Bool) (kk nk:Int) (tk:kB),k<=q/\i=(vI k)/\bv=.bool I/\Hid (MAt C Mk wr rk.1)/\Hid (MFr M Mk z wr)/\Hid (Lo C Mk z wr p1 #[vI kk,vI nk,.string tk] 71)/\
  Hid (match rk.2 with
   | .ok v=>v=(I,⟨kk,nk,tk⟩)/\ev=.nilIface
   | .error x=>ax C Mk wr x ev)/\Hid (Fin s (d+2*(q-k)) DQ rk)/\Hid (R=wt D sc fr ((l.drop k).map (ATree.nt C.N)) rk)) (λ_ _ i _=>q-(intOf i).toNat)
 case atStart=>exact⟨0,M1,r1,b1,k1,n1,t1,Yh _,rfl,rfl,bX,bA,jY,qR,lh (by rw[Nat.sub_zero];exact bL.o),lh (by rw[List.drop_zero];exact HR.o)⟩
 case round=>
  obtain⟨k,Mk,rk,I,kk,nk,tk,Nv,rfl,rfl,u,HFk,pq,qx,ee,HRk⟩:=hrel;rcases Nat.lt_or_ge k q with hk|hk
  .obtain⟨x,hx⟩:∃x,l[k]? =some x:=⟨_,Y6 (by have :=HQ.o;omega)⟩
   have dY:=Yd hx;obtain⟨Dw,eL,BO⟩:=ds (re.o x dY) (HFk.o.tree (re.o x dY).1 (re.o x dY).2) (kL.o x dY);have hR:=HRk.o;have e9:l.drop k=x::l.drop (k+1):=by
    obtain⟨h1,h2⟩:=List.getElem?_eq_some_iff.1 hx;rw[Yt h1,h2]
   rw[e9,List.map_cons]at hR;have C8:wr.cell? ⟨kg,1+k,none⟩=some (vP x.b):=by rw[Nat.add_comm 1 k];exact(HFk.o.cell ft.o yp.o).trans (jX.o k x hx)
   have Dx:kW wr (wr.alloc (.cells #[.pointer none] 86)):=Z2 _ _;have Z:=lh Dx;have Oy:=lh (Lo.new (wE:=z) u.o HFk.o.size mL.o #[.pointer none] 86);have dk:=(eL.o.1.bel Dx).c0;have dg:(wr.alloc (.cells #[.pointer none] 86)).cell? ⟨0,0,none⟩=some (ql C.eb):=((u.o.below Dx).old.cell qA.o.stopB).trans qA.o.stop;clear hx dY e9 Dx;obtain⟨sk,qk⟩:=rk;rcases qk with(_|v0)|v0
   .have U:=qx.o;simp only[ax]at U;rw[Zgd]at hR;subst hR;have he:=Zm8 C.eb (wr.alloc (.cells #[.pointer none] 86));have BP:=lh U;rw[U];clear U;unfold ql at dg he ⊢;go_wp2_with fail
    obtain⟨b0,b1,b2,-,-,-⟩:=(pq.o.fr (MFr.of_below Z.o)).six;obtain⟨q0,q1,q2,z0,z1,z2⟩:=(J.o.fr (HFk.o.trans (MFr.of_below Z.o))).six;refine Zvn ?_;refine ta ?_;go_wp2;refine Yp (v:=.tuple #[.bool I,.agg #[vI kk,vI nk,.string tk],.iface 241 (.pointer (some C.eb))]) ?_ rfl ?_;·exact Zt0
    .exact .err J.o HBZ.o (u.o.below Z.o).drew ((HFk.o.trans (.of_below Z.o)).trans (.drew (.refl _ _))) (show ax C _ _ .stop (ql C.eb)from rfl)
   .obtain⟨p,U,gJ,uh⟩:=qx.o;have BP:=lh (show ax C Mk wr (.thr v0) (sN p)from⟨p,rfl,gJ,uh⟩);have he:=Zr1 C.eb p (wr.alloc (.cells #[.pointer none] 86));rw[U];clear U;unfold ql at dg;unfold ql sN at he;unfold sN;rcases BO.o.1 with na|BQ
    .rw[na]at dk;obtain⟨vk,vn,vt⟩:=v0;obtain⟨y,F,wy,my⟩:=BO.o.2;have ez:y∈x.kids:=by rw[F];simp
     have Lc:(x.nt C.N).kid 0=y.nt C.N:=xX (by rw[F];rfl);have an:R=wt D sc fr ((l.drop (k+1)).map (ATree.nt C.N)) (D (y.nt C.N) sk.next fr ((sk.opens sc (-1) (C.N x.b)).declare sk.next x.text 0 ⟨vk,vn,vt⟩)):=by
      rw[hR,<-Lc];simp only[wt,Za,na,if_true,sw,Zck]
     obtain⟨xg,xc,kj,dL,sm,Y,ju,fS⟩:=eL.o.1.row eL.o.2 (by rw[F];simp);rw[F]at kj dL Y;have uR:=Y 0 y rfl;simp only[List.length_cons,List.length_nil]at kj dL;have kj:vC wr x.b 3 (.slice (some ⟨xg,0,none⟩) 1 xc):=kj;obtain⟨z1,O⟩:=zX (wr.alloc (.cells #[.pointer none] 86))
     have aQ:=Z.o;rw[<-O]at aQ;have cX:p<wr.heap.size:=(Y1.1 gJ).1;have Hl:wr.heap.size<z1.heap.size:=by rw[O];simp
     have BR:=Oy.o;rw[<-O]at BR;obtain⟨z2,ar,xd⟩:∃z2,kW z1 z2/\kC 16 #[.iface 86 (vP p),.iface 87 (vP wr.heap.size)] z1 λev w'=>ev=.returned (.bool true)/\w'=z2.setCell ⟨wr.heap.size,0,none⟩ (vP p):=by
      refine⟨_,?_,Ze0 ⟨p,0,none⟩ ⟨wr.heap.size,0,none⟩ (.pointer none) z1 (we.o.below ((u.o.below aQ).old)) (BR.cell rfl) (BR.fz 0)⟩;have A:∀{W:kV} (o:Obj),kW z1 W->kW z1 (W.alloc o):=λo h=>h.alloc h.size o;exact A _ (A _ (A _ (Z2 _ _)))
     have mQ:kW wr z2:=aQ.trans (ar.mono aQ.size);obtain⟨om,Dy,xf⟩:=(BR.bel ar).put (u.o.below mQ) (HFk.o.trans (.of_below mQ)) Qg Qg 0 (vP p);have lF:(z2.setCell ⟨wr.heap.size,0,none⟩ (vP p)).heap[p]?=some (mc ⟨vk,vn,vt⟩):=(Y8 _ _ _ _ (by first|exact Nat.ne_of_lt cX|exact(Nat.ne_of_lt cX).symm)).trans ((mQ.block p cX).trans gJ)
     have fC:MFr Mk Mk wr (z2.setCell ⟨wr.heap.size,0,none⟩ (vP p)):=⟨mQ.os,mQ.tape,mQ.output,by simpa[World.setCell]using mQ.size,λi hi _=>(Y8 _ _ _ _ (by first|exact Nat.ne_of_lt hi|exact(Nat.ne_of_lt hi).symm)).trans (mQ.block i hi),λ_ _ h=>h⟩
     obtain⟨z3,rI⟩:=zX (z2.setCell ⟨wr.heap.size,0,none⟩ (vP p))
     rw[<-rI]at xd om Dy xf lF fC;have qO:p<z3.heap.size:=(Y1.1 lF).1;obtain⟨dH,bP,mu⟩:=ds om Dy (Dy.tree Dw.o.1 Dw.o.2);have oG:=lh (Z5z qA.o om mu.o.1);obtain⟨i1,x1,c1,eo,i2⟩:=ee.o;have i2:sk.steps<=20000:=i2;have gA:b<=sk.steps:=by have:=HB.o;have h2:s.steps<=sk.steps:=x1.steps;omega
     have i1:Inv sk (d+2*(q-(k+1))+1+1):=i1.less Qe;have s7:=gY.o.ext x1;have eH:=i1.opens (outer:=sc) (object:=-1) (owner:=C.N x.b) (by have:=s7.lo;omega) s7.hi Qg Qe;have eG:=Wp om i1 sc (-1) (C.N x.b);obtain⟨nx,eC⟩:=zX sk.next
     have s8:=s7.opens eH.2;obtain⟨so,aW⟩:=zX (sk.opens sc (-1) (C.N x.b))
     rw[<-aW,<-eC]at eG s8 an;rw[<-aW]at eH;have dv:so.steps=sk.steps:=Sm
     have oI:so.calls=sk.calls:=Sm
     obtain⟨j1,j2⟩:=UW (sc:=nx) (kind:=0) (name:=x.text) (v:=⟨vk,vn,vt⟩) eH.1 (LVal.ok.mono (v:=⟨vk,vn,vt⟩) eo eH.2.lo) Qg Qg;obtain⟨sd,qu⟩:=zX (so.declare nx x.text 0 ⟨vk,vn,vt⟩)
     rw[<-qu]at j1 j2 an;have ex:sd.steps=sk.steps:=by rw[qu,<-dv];rfl
     have BS:sd.calls=sk.calls:=by rw[qu,<-oI];rfl
     obtain⟨r3,df⟩:=zX (D (y.nt C.N) nx fr sd)
     have am:=(HD.o (y.nt C.N) nx fr sd _ wy my j1 (s8.ext j2) Qe Qe).1;rw[<-df]at am an;obtain⟨mG,bD,sJ,jI,nj,Ld⟩:=gw (Fin.pre (x1.trans (eH.2.trans j2)) (BS.trans c1) am) an xd eG eH.1 (λW M' (hM:MAt C M' W sd) (hT:TreeAt W B y/\y.free M')=>iU.o.from hM j1 (s8.ext j2) Qe Qe wy my hT.1 hT.2 W (Y2 _ _));rw[<-df]at Ld;obtain⟨oY,PW,pC⟩:=ds qu rI (Yu (mu.o.1.kid ez) (mu.o.2.kid ez))
     have iF:=lh (show∀W M',MFr Mk M' z3 W->vC W x.b 1 (.string x.text)/\vC W wr.heap.size 0 (vP p)/\vC W p 0 (vI vk)/\vC W p 1 (vI vn)/\vC W p 2 (.string vt)from
      λW M' f=>have hw:=(f.block p qO uh).trans lF;⟨((bP.o.trans f).tree Dw.o.1 Dw.o.2).1.c1,(xf.fr f).cell rfl,by simp[vC,World.cell?,hw,mc,LVal.arr],by simp[vC,World.cell?,hw,mc,LVal.arr],by simp[vC,World.cell?,hw,mc,LVal.arr]⟩)
     have nB:=lh (show∀W M',MFr Mk M' z3 W->vC W w.heap.size 0 (.bool fr.strict)/\vC W w.heap.size 1 (vI fr.vars)/\vC W x.b 3 (.slice (some ⟨xg,0,none⟩) 1 xc)/\vC W xg 0 (vP y.b)from
      λW M' f=>have g:=fC.trans f;⟨(dC.o.fr (HFk.o.trans g)).cell rfl,(dC.o.fr (HFk.o.trans g)).cell rfl,(g.cell eL.o.1.lt eL.o.2.blk).trans kj,(g.cell ju fS).trans uR⟩)
     have oR:=lh (pq.o.fr fC);clear F ez Lc hR an Y uR kj ju fS aQ cX Hl BR xd ar mQ om Dy xf lF fC rI qO i1 x1 c1 eo i2 gA s7 eH eG eC s8 aW dv oI j1 j2 qu ex BS df am;simp only[ATree.ptr]at oG;go_wp2_with fail
     rw[<-O];refine sJ.o.mono ?_;rintro e W2⟨rfl,rfl⟩;clear dk dg he O;go_wp2_with fail
     refine oG.o.mono ?_;rintro e W2⟨rfl,rfl⟩;go_wp2_with fail
     refine jI.o.mono ?_;rintro e W4⟨rfl,M4,fG,bg⟩;have jd:=lh fG;have kr:=lh bg;have eV:=Wm fG.drew nj.o nx x.text 0 ⟨vk,vn,vt⟩;rw[<-oY.o]at eV;simp only[LVal.agg]at eV;have l9:=lh eV;clear fG bg eV;obtain⟨e1,e2,Hm,e4,e5⟩:=iF.o _ _ kr.o;go_wp2_with fail
     refine o4 [(true,0),(true,1),(true,2),(true,3),(true,4),(true,5),(true,6),(true,7),(true,8),(true,9),(true,10),(true,11)] [12] (λW=>vC W x.b 1 (.string x.text)/\vC W wr.heap.size 0 (vP p)/\vC W p 0 (vI vk)/\vC W p 1 (vI vn)/\vC W p 2 (.string vt)) (iF.o _ _ (kr.o.trans (.drew (.refl _ _)))) (λbw=>?_);refine pU ?_;refine Z1 ?_;go_wp2_with fail
     refine l9.o.mono ?_;rintro e W5⟨rfl,M5,me,eP⟩;have F5:=kr.o.trans ((MFr.drew (.refl M4 W4)).trans eP);clear e1 e2 Hm e4 e5;have rr:=lh F5;have Bn:=lh (Ld.o _ _ me.drew ((F5.trans (.drew (.refl _ _))).tree pC.o.1 pC.o.2));clear me eP F5;obtain⟨e1,e2,Hm,e4⟩:=nB.o _ _ rr.o;go_wp2_with fail
     refine v7 (.take 0 (.take 1 (.take 2 (.take 3 (.take 4 (.take 5 (.take 6 (.take 7 (.take 8 (.go 9 (.take 10 (.take 11 (.take 12 (.take 13 (.go 14 (.go 15 (.go 16 .nil))))))))))))))))) 15 (λW=>vC W w.heap.size 0 (.bool fr.strict)/\vC W w.heap.size 1 (vI fr.vars)/\vC W x.b 3 (.slice (some ⟨xg,0,none⟩) 1 xc)/\vC W xg 0 (vP y.b)) (nB.o _ _ (rr.o.trans (.drew (.refl _ _)))) ?_;refine ra ?_;refine oK (λK hK=>?_);refine Bn.o.mono ?_
     rintro e W6⟨M6,b6,k6,n6,t6,Le,rfl,jV⟩;have F6:=(rr.o.trans (.drew (.refl _ _))).trans jV.2.1;refine hK _ _ (nB.o _ _ F6) ?_;clear hK K e1 e2 Hm e4;have Aw:=oR.o.fr F6;obtain⟨q0,q1,q2,z0,pu,rL⟩:=Aw.six;obtain⟨jT,Hn,pI⟩:=ds (Aw.fill (x':=(vI k6)) (y':=(vI n6)) (z':=.string t6) jV.1 (bP.o.trans F6) Aw.late) jV.2.2 (nB.o _ _ F6);clear jV F6 Aw;refine Uv ?_;refine oK (λK hK=>?_);refine hK _ _ pI.o ?_;clear hK K;try simp only[Act.put,zA,zB,zC]
     refine ta ?_;have BT:match r3.2 with
      | .ok v=>v=(b6,⟨k6,n6,t6⟩)/\Le=.nilIface
      | .error x=>ax C M6 (((W6.setCell ⟨p1,0,none⟩ (vI k6)).setCell ⟨p1,1,none⟩ (vI n6)).setCell ⟨p1,2,none⟩ (.string t6)) x Le:=by
      have h3:=Hn.o;rcases hr:r3.2 with x|v;·rw[hr]at h3;exact jT.o.2.2.2 _ _ h3
      .rw[hr]at h3;exact h3
     have Oz:=lh BT;clear BT;go_wp2_with fail
     go_roundw
     case rel=>exact⟨k+1,M6,r3,b6,k6,n6,t6,by omega,by go_num,rfl,lh jT.o.1,lh jT.o.2.1,lh jT.o.2.2.1,Oz,mG,bD⟩
     case measure=>simp[intOf];omega
    ·rw [BQ] at dk;rw [Zdt (by rw [Za, BQ]; decide)] at hR;obtain ⟨y, F, wy, my⟩ := BO.o.2;obtain ⟨xg, xc, kj, dL, sm, Y, ju, fS⟩ := eL.o.1.row eL.o.2 (by rw [F]; simp);rw [F] at kj dL Y;have uR := Y 0 y rfl;simp only [List.length_cons, List.length_nil] at kj dL;have kj : vC wr x.b 3 (.slice (some ⟨xg, 0, none⟩) 1 xc) := kj;have ez : y ∈ x.kids := by rw [F]; simp
     rw[xX (i:=0) (x:=y) (by rw[F];rfl)]at hR;obtain⟨z1,O⟩:=zX (wr.alloc (.cells #[.pointer none] 86))
     have CM:=lh O;have aQ:=Z.o;rw[<-O]at aQ;have bA:=lh (HFk.o.trans (MFr.of_below (M:=Mk) aQ));have bX:=lh (u.o.below aQ);have eg:=lh (Y4 HE.o bA.o.size);obtain⟨i1,x1,c1,eo,i2⟩:=ee.o;refine Zxt ?_;intro i2 gA r3 df bS am;rw[<-df]at bS am hR;refine Aa4 ?_;intro bF HR cH au;clear F Y uR kj ez O aQ i1 x1 c1 eo i2 gA df am hR ju fS;go_wp2_with fail
     rw[<-CM.o];clear dk dg he;refine AbC ?_;apply Ziz (H:=Lz C w Mk z1 r3);·exact kDA cH bS eg.o HO.o
     .exact Zvd cH bS bX eg.o HO.o
     intro W3 p2 M3 b3 k3 n3 t3 fj bo;have F3:=(MFr.of_below (M:=Mk) au.o).trans bo.1.2.1;obtain⟨bP,dH,oR⟩:=ds F3 bo.1.1 bo.2;obtain⟨s3,q3⟩:=r3;cases q3 with
     |error x3=>
       exact AbR
     |ok v3=>
       obtain⟨rfl,rfl⟩:v3=(b3,⟨k3,n3,t3⟩)/\fj=.nilIface:=bo.1.2.2;clear bo F3;cases b3
       .have dP:=lh (show R=wt D sc fr ((l.drop (k+1)).map (ATree.nt C.N)) (s3,.error (.thr v0))from HR.o);have qz:Fin s (d+2*(q-(k+1))) DQ (s3,.error (.thr v0)):=⟨bF.o.1,ee.o.2.1.trans bF.o.2.1,bF.o.2.2.1.trans ee.o.2.2.1,LVal.ok.mono (v:=v0) ee.o.2.2.2.1 bF.o.2.1.lo,bF.o.2.2.2.2⟩
        have mG:=lh qz;clear HR qz;go_wp2_with fail
        go_roundw
        case rel=>exact⟨k+1,M3,(s3,.error (.thr v0)),I,kk,nk,tk,by omega,by go_num,rfl,dH,lh (HFk.o.trans bP.o),lh (pq.o.fr bP.o),lh (BP.o.fr bP.o),mG,dP⟩
        case measure=>simp[intOf];omega
       .exact AaL
   .have U:=qx.o;obtain⟨rfl,U⟩:=U;have he:=Zr4 C.eb (wr.alloc (.cells #[.pointer none] 86));rw[U];clear U;unfold ql at dg he;rcases BO.o.1 with na|BQ
    .rw[na]at dk;have an:R=wt D sc fr ((l.drop (k+1)).map (ATree.nt C.N)) (sk,.ok (I,⟨kk,nk,tk⟩)):=by
      rw[hR];simp only[wt,Za,na,if_true]
     have bD:=lh an;have mG:=lh (ee.o.less (e:=d+2*(q-(k+1))) Qe);clear hR an;go_wp2_with fail
     refine(Zlx _ _).mono ?_;rintro e W2⟨rfl,rfl⟩;go_wp2_with fail
     go_roundw
     case rel=>exact⟨k+1,Mk,(sk,.ok (I,⟨kk,nk,tk⟩)),I,kk,nk,tk,by omega,by go_num,rfl,lh (u.o.below Z.o),lh (HFk.o.trans (.of_below Z.o)),lh (pq.o.bel Z.o),lh ⟨rfl,rfl⟩,mG,bD⟩
     case measure=>simp[intOf];omega
    ·rw [BQ] at dk;rw [Zks (by rw [Za, BQ]; decide)] at hR;obtain ⟨y, F, wy, my⟩ := BO.o.2;obtain ⟨xg, xc, kj, dL, sm, Y, ju, fS⟩ := eL.o.1.row eL.o.2 (by rw [F]; simp);rw [F] at kj dL Y;have uR := Y 0 y rfl;simp only [List.length_cons, List.length_nil] at kj dL;have kj : vC wr x.b 3 (.slice (some ⟨xg, 0, none⟩) 1 xc) := kj;have ez : y ∈ x.kids := by rw [F]; simp
     rw[xX (i:=0) (x:=y) (by rw[F];rfl)]at hR;obtain⟨z1,O⟩:=zX (wr.alloc (.cells #[.pointer none] 86))
     have CM:=lh O;have aQ:=Z.o;rw[<-O]at aQ;have bA:=lh (HFk.o.trans (MFr.of_below (M:=Mk) aQ));have bX:=lh (u.o.below aQ);have eg:=lh (Y4 HE.o bA.o.size);obtain⟨i1,x1,c1,eo,i2⟩:=ee.o;refine Zxt ?_;intro i2 gA r3 df bS am;rw[<-df]at bS am hR;refine Aa4 ?_;intro bF HR cH au;clear F Y uR kj ez O aQ i1 x1 c1 eo i2 gA df am hR ju fS;go_wp2_with fail
     rw[<-CM.o];clear dk dg he;refine AbC ?_;apply Ziz (H:=Lz C w Mk z1 r3);·exact kDA cH bS eg.o HO.o
     .exact Zvd cH bS bX eg.o HO.o
     intro W3 p2 M3 b3 k3 n3 t3 fj bo;have F3:=(MFr.of_below (M:=Mk) au.o).trans bo.1.2.1;obtain⟨bP,dH,oR⟩:=ds F3 bo.1.1 bo.2;obtain⟨s3,q3⟩:=r3;cases q3 with
     |error x3=>
       exact AbR
     |ok v3=>
       obtain⟨rfl,rfl⟩:v3=(b3,⟨k3,n3,t3⟩)/\fj=.nilIface:=bo.1.2.2;clear bo F3;cases b3
       .have dP:=lh (show R=wt D sc fr ((l.drop (k+1)).map (ATree.nt C.N)) (s3,.ok (I,⟨kk,nk,tk⟩))from HR.o);have qz:Fin s (d+2*(q-(k+1))) DQ (s3,.ok (I,⟨kk,nk,tk⟩)):=⟨bF.o.1,ee.o.2.1.trans bF.o.2.1,bF.o.2.2.1.trans ee.o.2.2.1,LVal.ok.mono (v:=⟨kk,nk,tk⟩) ee.o.2.2.2.1 bF.o.2.1.lo,bF.o.2.2.2.2⟩
        have mG:=lh qz;clear HR qz;go_wp2_with fail
        go_roundw
        case rel=>exact⟨k+1,M3,(s3,.ok (I,⟨kk,nk,tk⟩)),I,kk,nk,tk,by omega,by go_num,rfl,dH,lh (HFk.o.trans bP.o),lh (pq.o.fr bP.o),lh ⟨rfl,rfl⟩,mG,dP⟩
        case measure=>simp[intOf];omega
       .exact AaL
  .obtain rfl:k=q:=by omega
   have hR:R=rk:=by
    have:=HRk.o;rwa[List.drop_eq_nil_of_le So]at this
   go_wp2_with fail
   obtain⟨b0,b1,b2,-,-,-⟩:=pq.o.six;obtain⟨q0,q1,q2,z0,z1,z2⟩:=(J.o.fr HFk.o).six;refine Zvn ?_;refine ta ?_;obtain⟨sk,qk⟩:=rk;subst hR;cases qk with
   |error x1=>
     have he:ax C Mk wr x1 _:=qx.o;obtain⟨T1,P1,rfl,hP⟩:=he.ne;go_wp2;refine Yp (v:=.tuple #[.bool I,.agg #[vI kk,vI nk,.string tk],.iface T1 (.pointer P1)]) ?_ rfl ?_;·exact Zt0
     .exact .err J.o HBZ.o u.o.drew (HFk.o.trans (.drew (.refl _ _))) he
   |ok v1=>
     obtain⟨rfl,rfl⟩:=qx.o;go_wp2;refine Yp (v:=.tuple #[.bool I,.agg #[vI kk,vI nk,.string tk],.nilIface]) ?_ rfl ?_;·exact Zt0
     .exact .fine J.o HBZ.o u.o.drew (HFk.o.trans (.drew (.refl _ _)))
end
structure Tbs(C:RCtx):Prop where
 ok:C.Ok
 pw:K' C.w0
 wd:Words C.w0
 lv:EO C.w0 C.w0.heap.size
 et:Tk C.w0
def Ab5{t:Tree}(h:Wf .s [t])(hk:t.kind=12):2<=t.kids.length:=by
 cases h;case blk h=>exfalso;have:=(wk h).1;omega
 all_goals first
  |(exfalso;simp only[Tree.kind]at hk;omega)
  |simp[Tree.kids]
def Zuv{l:List NT}(h:Wf .vl (qa l)):∀y∈l,y.wf .v:=by
 induction l with
 |nil=>intro y hy;cases hy
 |cons z l ih=>
   intro y hy;obtain⟨k1,k2⟩:=Zhm (t:=z.tree) (l:=qa l) h;exact Xb
def Zu5{l:List NT}(h:Wf .ol (qa l)):∀y∈l,∃o,y.kids=[o]/\o.wf .v:=by
 induction l with
 |nil=>intro y g;cases g
 |cons z l m=>
   intro y g;obtain⟨⟨-,-,x,p,u⟩,F⟩:=Zi7 (t:=z.tree) (l:=qa l) h;rcases List.mem_cons.1 g with rfl|g
   .obtain⟨o,G,rfl⟩:=SO p;exact⟨o,G,u⟩
   .exact m F y g
section
variable {C:RCtx}{M M':MRep}{w w':kV}{s s':MSt}{B:Nat}{a:ATree}{V:VF}{D:DF}{b:Int}{sc:Int}{fr:Frm}{d:Nat}
def ak0(h:(a.nt C.N).kids=[]):a.kids=[]:=by
 rw[Zw,zI]at h;exact List.map_eq_nil_iff.1 h
def akc{p:NT}{l:List NT}(h:(a.nt C.N).kids=p::l):∃x r,a.kids=x::r/\x.nt C.N=p/\r.map (ATree.nt C.N)=l:=by
 rw[Zw,zI]at h;obtain⟨x,r,g,m,o⟩:=List.map_eq_cons_iff.1 h;exact⟨x,r,g,m,o⟩
def VC{p:NT}(h:(a.nt C.N).kids=[p]):∃x,a.kids=[x]/\x.nt C.N=p:=by
 obtain⟨x,r,g,m,o⟩:=akc h;rw[List.map_eq_nil_iff.1 o]at g;exact⟨x,g,m⟩
def ak2{p q:NT}(h:(a.nt C.N).kids=[p,q]):∃x y,a.kids=[x,y]/\x.nt C.N=p/\y.nt C.N=q:=by
 obtain⟨x,r,g,o,u⟩:=akc h;obtain⟨y,I,m,F,G⟩:=List.map_eq_cons_iff.1 u;rw[List.map_eq_nil_iff.1 G]at m;rw[m]at g;exact⟨x,y,g,o,F⟩
def ak3{p q r:NT}(h:(a.nt C.N).kids=[p,q,r]):∃x y z,a.kids=[x,y,z]/\x.nt C.N=p/\y.nt C.N=q/\z.nt C.N=r:=by
 obtain⟨x,l,g,o,u⟩:=akc h;obtain⟨y,U,F,G,I⟩:=List.map_eq_cons_iff.1 u;obtain⟨z,X,m,J,O⟩:=List.map_eq_cons_iff.1 I;rw[List.map_eq_nil_iff.1 O]at m;rw[F,m]at g;exact⟨x,y,z,g,o,G,J⟩
def wW{x:ATree}(hx:x∈a.kids)(g:(a.nt C.N).tree.many<=1500):(x.nt C.N).tree.many<=1500:=by
 have:=Dv (n:=a.nt C.N) (x:=x.nt C.N) Q2;omega
def Zla(g:(a.nt C.N).tree.many<=1500):a.kids.length<=1500:=by
 have:=Td (n:=a.nt C.N);rw[Zw,zI,Ym]at this;omega
def Znv(hI:Inv s d)(g:FAt s sc fr)(hs:s.steps<20000):Inv {s with steps:=s.steps+1} 20000/\FAt {s with steps:=s.steps+1} sc fr:=by
 have o:=hI.steps;obtain⟨m,i2⟩:=Inv.turn (k:=s.steps+1) (c:=s.calls) (v:=s.last) (d':=20000) hI Qe Qe hI.calls hI.last Qe;exact⟨m,g.ext i2⟩
def Zgn(T:Tbs C)(u:zd C V b)(y:VH V b)(h:MAt C M w s)(hI:Inv s (d+1))(F:FAt s sc fr)(hb:b<=s.steps)(hs:s.steps<=20000)(g:TreeAt w B a)(hf:a.free M)(wa:(a.nt C.N).wf .v)(I:(a.nt C.N).tree.many<=1500) :
 kC 132 #[vP C.mb,a.ptr,vI sc,.agg #[.bool fr.strict,vI fr.vars]] w λe w'=>bK C M w (S' V (a.nt C.N) sc fr s) e w':=by
 by_cases J:a.kind=23;·exact Zf5 h hI g hf J
 by_cases m:a.kind=36
 .obtain⟨-,x',O,U⟩:=T7 wa (by rw[Z6,Za];exact m);obtain⟨p,X,rfl⟩:=SO O;obtain⟨o,ho,rfl⟩:=VC X;exact Zg5 u y h hI F hb hs g hf m ho U (wW QV I)
 .exact Zd6 u y h hI F hb hs g hf J m wa I
def Zop(T:Tbs C)(g:zd C V b)(m:VH V b)(h:MAt C M w s)(hI:Inv s (d+2))(u:FAt s sc fr)(hb:b<=s.steps)(hs:s.steps<=20000)(F:TreeAt w B a)(hf:a.free M)(hk:a.kind=24)(wa:(a.nt C.N).wf .v)(I:(a.nt C.N).tree.many<=1500) :
 kC 122 #[vP C.mb,a.ptr,vI sc,.agg #[.bool fr.strict,vI fr.vars]] w λe w'=>bK C M w (vu V (a.nt C.N) sc fr s) e w':=by
 obtain⟨x',y',X,Y,Z,J⟩:=Abu wa (by rw[Z6,Za];exact hk);obtain⟨p,q,g1,rfl,rfl⟩:=UO X;obtain⟨x,y,qt,rfl,rfl⟩:=ak2 g1;have O:=wW (C:=C) (x:=y) St I;have mx:=wW (C:=C) (x:=x) St I;rw[Z6,Za]at Y;by_cases U:x.kind=23;·exact Zmc T.ok T.et g m h hI u hb hs F hf qt U J O
 .obtain⟨-,o',k2,k3⟩:=T7 Z (by rw[Z6,Za];omega);obtain⟨o1,g2,rfl⟩:=SO k2;obtain⟨o,ho,rfl⟩:=VC g2;exact Zoe g m h hI u hb hs F hf qt ho U k3 J (wW QV mx) O
def Zjl(T:Tbs C)(J:zd C V b)(O:VH V b)(cV:FR C D b)(hD:DH D b)(h:MAt C M w s)(hI:Inv s (d+17000))(U:FAt s sc fr)(hb:b<=s.steps)(hs:s.steps<=20000)(m:TreeAt w B a)(hf:a.free M)
 (hk:a.kind=32\/a.kind=33\/a.kind=34\/a.kind=35\/a.kind=36\/a.kind=38)(wa:(a.nt C.N).wf .v)(u:(a.nt C.N).tree.many<=1500) :
 kC 124 #[vP C.mb,a.ptr,vI sc,.agg #[.bool fr.strict,vI fr.vars]] w λe w'=>bK C M w (EG V D (a.nt C.N) sc fr s) e w':=by
 by_cases y:a.kind=32\/a.kind=33\/a.kind=34
 .obtain⟨x',g,F⟩:=wv1 wa Sd Sd;obtain⟨p,I,rfl⟩:=SO g;obtain⟨o,ho,rfl⟩:=VC I;have Y:=wW (C:=C) (x:=o) QV u;rcases y with y|y|y;·exact Zxk J O h (d:=d) (hI.less Qe) U hb hs m hf y ho F Y
  .exact Zlq J O h (d:=d) (hI.less Qe) U hb hs m hf y ho F Y
  .have Z:o∈a.kids:=by rw[ho];simp
   exact Zkq h m hf y ho λW X=>Zgn T J O (h.below X) (d:=d) (hI.less Qe) U hb hs ((m.bel X).kid Z) (hf.kid Z) F Y
 by_cases h5:a.kind=35
 .obtain⟨x',l',g,F,k3⟩:=Acg wa (by rw[Z6,Za];exact h5);rw[E1]at g;obtain⟨p,l1,I,rfl,rfl⟩:=Ve g;obtain⟨x0,l,cr,rfl,rfl⟩:=akc I;have fm:∀k∈l,(k.nt C.N).wf .v/\(k.nt C.N).tree.many<=1500:=λk hk=>⟨Zuv k3 _ (List.mem_map.2 ⟨k,hk,rfl⟩),wW (by rw[cr];simp[hk]) u⟩;have hl:l.length<=1500:=by have :=Zla (C:=C) (a:=a) u;rw[cr,List.length_cons]at this;omega
  exact Zrs h m hf h5 λW X=>Znx T.pw T.wd T.lv T.ok J O cV hD (h.below X) hI U hb hs (m.bel X) hf cr F (wW QL u) hl fm
 by_cases h6:a.kind=36
 .obtain⟨-,x',g,F⟩:=T7 wa (by rw[Z6,Za];exact h6);obtain⟨p,I,rfl⟩:=SO g;obtain⟨o,ho,rfl⟩:=VC I;exact Zm0 J O h (d:=d) (hI.less Qe) U hb hs m hf h6 ho F (wW QV u)
 .have h8:a.kind=38:=by omega
  have g:=Ab0 wa (by rw[Z6,Za];exact h8);rw[E1]at g;have hn:=Zla (C:=C) (a:=a) u;refine Zlv J O h (d:=d) (hI.less Qe) U hb hs m hf h8 hn λx hx=>?_;obtain⟨o',I,g2⟩:=Zu5 g (x.nt C.N) Q2;obtain⟨o,ho,rfl⟩:=VC I;exact⟨o,ho,g2,wW QV (wW hx u)⟩
def Zk2(T:Tbs C)(J:zd C V b)(O:VH V b)(cV:FR C D b)(hD:DH D b):zd C (λn sc fr=>zJ (zz V D n sc fr)) (b-1):=by
 intro w M s a B sc fr d h hI X hb hs hw u g hf;have bC:=Zmt hw;rw[Z6,Za]at bC;by_cases gL:s.steps=20000;·exact Zut T.ok h hI g hf gL
 have m:s.steps<20000:=Qe
 have o:Inv s 0:=hI.less (Yh _);obtain⟨Y,U⟩:=Znv hI X m;have Z:b<=s.steps+1:=Qe
 have aL:s.steps+1<=20000:=Qe
 by_cases k1:a.kind<=22;·exact Zta h o g hf m Qe
 by_cases k2:a.kind=23;·exact Zsf (d:=0) T.ok h o Qg g hf m k2
 by_cases k3:a.kind=24;·exact Zye (d:=0) h o Qg g hf m k3 λW M' F ht I=>Zop T J O F (d:=0) (Y.less Qg) U Z aL ht I k3 hw u
 by_cases k4:a.kind<=31
 .obtain⟨x',y',g1,wx,wy⟩:=wv2 hw Sd Sd;obtain⟨p,q,g2,rfl,rfl⟩:=UO g1;obtain⟨x,y,qt,rfl,rfl⟩:=ak2 g2;have mx:=wW (C:=C) (x:=x) St u;have my:=wW (C:=C) (x:=y) St u;by_cases k5:a.kind=25\/a.kind=26;·exact AaT (d:=0) J O h o Qg X Qe m g hf qt wx wy mx my k5
  .exact Zxl (d:=0) T.pw J O h o Qg X Qe m g hf qt wx wy mx my Qe
 by_cases k6:a.kind=37
 .refine Zxx (d:=0) h o Qg g hf m k6 λW M' F ht I=>?_;exact Z33 (d:=0) T.ok F (Y.less Qg) ht I ⟨.inr ⟨by rw[Za];exact k6,hw⟩,u⟩ sc fr U.lo U.hi
 .exact Zp4 (d:=0) h o Qg g hf m Qe λW M' F ht I=>Zjl T J O cV hD F (d:=0) (Y.less Qg) U Z aL ht I Qe hw u
def Zie(T:Tbs C)(Y:zd C V b)(Z:VH V b)(O:FR C D b)(hD:DH D b){f:Nat}(np:20001-(f:Int)=b):FR C (D7 V D f) (b-1):=by
 intro w M s a B sc fr d h hI U hb hs hw g m hf;have bC:=Zkz hw;rw[Z6,Za]at bC;by_cases gL:s.steps=20000;·exact Zto T.ok h hI m hf gL
 have o:s.steps<20000:=Qe
 have F:Inv s 0:=hI.less (Yh _);obtain⟨fM,kD⟩:=Znv hI U o;have ai:b<=s.steps+1:=Qe
 have aL:s.steps+1<=20000:=Qe
 by_cases k2:a.kind=2
 .obtain⟨-,h0|⟨x',X,I⟩⟩:=ws2 hw (by rw[Z6,Za];exact .inl k2);·exact Zg7 h F o m hf (.inl ⟨ak0 (Zfd h0),.inl k2⟩)
  .obtain⟨p,J,rfl⟩:=SO X;obtain⟨x,hx,rfl⟩:=VC J;exact Zvw (d:=0) T.et Y Z h F Qg U Qe o m hf hx I (wW QG g) k2
 by_cases k3:a.kind=3\/a.kind=4
 .obtain⟨-,h0|⟨x',X,I⟩⟩:=ws2 hw (by rw[Z6,Za];exact .inr k3);·exact Zx6 h F o m hf (ak0 (Zfd h0)) k3
  .obtain⟨p,J,rfl⟩:=SO X;obtain⟨x,hx,rfl⟩:=VC J;exact Z75 (d:=0) Y O Z h F Qg U Qe o m hf hx I (wW QG g) Qm (λy hy=>by cases hy) (k3.imp id .inl)
 by_cases k5:a.kind=5;·exact Zg7 h F o m hf (.inr k5)
 by_cases k6:a.kind=6
 .refine Zos h F o m hf k6 λW M' hM ht oz=>?_;have hst:(a.nt C.N).stm:=by
   have:=(wk (Zhi hw (by rw[Z6,Za];exact k6))).2.1;rw[E1]at this;exact this
  exact Zjb T.ok O hD hM (d:=0) (fM.less Qg) kD ai aL ht oz hst g (by rw[WG,U8]at g;exact g)
 by_cases k7:a.kind=7
 .obtain⟨x',y',I,wy,h2|⟨z',h3,wz⟩⟩:=ws7 hw (by rw[Z6,Za];exact k7)
  .obtain⟨p,q,J,rfl,rfl⟩:=UO h2;obtain⟨x,y,hx,rfl,rfl⟩:=ak2 J;exact Z75 (d:=0) Y O Z h F Qg U Qe o m hf hx I (wW QG g) Qm (λu hu=>by
    rw[List.mem_singleton]at hu;subst hu;exact⟨wy,wW QG g⟩) (.inr (.inr (.inl ⟨k7,by simp⟩)))
  .obtain⟨p,q,r,J,rfl,rfl,rfl⟩:=Zr7 h3;obtain⟨x,y,z,hx,rfl,rfl,rfl⟩:=ak3 J;exact Z75 (d:=0) Y O Z h F Qg U Qe o m hf hx I (wW QG g) Qm (λu hu=>by
    simp only[List.mem_cons,List.not_mem_nil,or_false]at hu;rcases hu with rfl|rfl;·exact⟨wy,wW QG g⟩
    .exact⟨wz,wW QG g⟩) (.inr (.inr (.inl ⟨k7,by simp⟩)))
 by_cases k8:a.kind=8\/a.kind=9
 .obtain⟨x',y',h2,I,wy⟩:=ws8 hw (by rw[Z6,Za];exact k8);obtain⟨p,q,J,rfl,rfl⟩:=UO h2;obtain⟨x,y,hx,rfl,rfl⟩:=ak2 J;have mx:=wW (C:=C) (x:=x) QG g;have my:=wW (C:=C) (x:=y) QG g;rcases k8 with k8|k9;·exact Zo3 (d:=0) Y O Z hD h F Qg U Qe o m hf hx I mx wy my Qe k8
  .exact Z75 (d:=0) Y O Z h F Qg U Qe o m hf hx I mx Qm (λu hu=>by
    rw[List.mem_singleton]at hu;subst hu;exact⟨wy,my⟩) (.inr (.inr (.inr (.inl ⟨k9,rfl⟩))))
 by_cases jF:a.kind=10\/a.kind=11
 .rcases AbQ hw (by rw[Z6,Za];exact jF)with⟨h0,hk⟩|⟨x',X,I⟩
  .rw[Z6,Za]at hk;exact Zuo h F o m hf (ak0 (Zfd h0)) hk
  .obtain⟨p,J,rfl⟩:=SO X;obtain⟨x,hx,rfl⟩:=VC J;exact Z75 (d:=0) Y O Z h F Qg U Qe o m hf hx I (wW QG g) Qm (λy hy=>by cases hy) (.inr (.inr (.inr (.inr (jF.imp id .inl)))))
 by_cases Ho:a.kind=12
 .refine Zx5 h F o m hf Ho λW M' hM ht oz=>?_;obtain⟨x',l',h1,h2,h3,h4⟩:=AbV hw (by rw[Z6,Za];exact Ho);have h5:=Ab5 hw (by rw[Z6,Za];exact Ho);rw[h1,List.length_cons]at h5;rw[E1]at h1;obtain⟨p,l1,X,rfl,rfl⟩:=Ve h1;obtain⟨x0,l,cr,rfl,rfl⟩:=akc X;rw[XM,Ym,Ym]at h3 h5;refine Zow T.ok T.et O hD hM (d:=0) (fM.less Qg) kD ai aL ht oz cr (Wf.blk h2) (wW QL g) h3 Qe λk hk=>?_
  obtain⟨bC,c',k1,k2⟩:=h4 (k.nt C.N).tree (by rw[XM];exact List.mem_map.2 ⟨k.nt C.N,List.mem_map.2 ⟨k,hk,rfl⟩,rfl⟩);obtain⟨p2,k3,rfl⟩:=SO k1;obtain⟨c,hc,rfl⟩:=VC k3;rw[Z6,Za]at bC;exact⟨bC.imp (λh=>h.1) id,c,hc,Wf.blk k2,wW (by rw[hc];simp) (wW (by rw[cr];simp[hk]) g)⟩
 by_cases CF:a.kind=15
 .obtain⟨x',X,I⟩:=AaK hw (by rw[Z6,Za];exact CF);obtain⟨p,J,rfl⟩:=SO X;obtain⟨x,hx,rfl⟩:=VC J;exact Z75 (d:=0) Y O Z h F Qg U Qe o m hf hx I (wW QG g) Qm (λy hy=>by cases hy) (.inr (.inr (.inr (.inr (.inr (.inr CF))))))
 .have Lf:a.kind=16:=by omega
  exact Zg7 h F o m hf (.inl ⟨ak0 (Zfd (AaQ hw (by rw[Z6,Za];exact Lf))),.inr Lf⟩)
theorem Zi0(T:Tbs C):∀f:Nat,zd C (T9 f).1 (20001-f)/\FR C (T9 f).2 (20001-f)
 |0=>⟨λw M s a B sc fr d _ _ _ hb hs=>by simp at hb;omega,λw M s a B sc fr d _ _ _ hb hs=>by simp at hb;omega⟩
 |f+1=>by
   obtain⟨g,m⟩:=Zi0 T f;obtain⟨o,p⟩:=Zb9 f;have e:(20001:Int)-((f+1:Nat):Int)=20001-(f:Int)-1:=Qe
   rw[e];exact⟨Zk2 T g o m p,Zie T g o m p rfl⟩
end
section
variable {C:RCtx}{M M1:MRep}{w z W:kV}{s:MSt}{B:Nat}{a:ATree}{d fb:Nat}{st:Bool}{A:Act}{K:Act->kV->Prop}{Q:Exit->Act->kV->Prop}
def X1{w:kV}{b i j k:Nat}{v x y:Value}(g:i≠k)(m:j≠k)(h:w.cell? ⟨b,k,none⟩=some v):((w.setCell ⟨b,i,none⟩ x).setCell ⟨b,j,none⟩ y).cell? ⟨b,k,none⟩=some v:=
 (Yr _ _ _ _ (λe=>m (Addr.mk.inj e).2.1)).trans ((Yr _ _ _ _ (λe=>g (Addr.mk.inj e).2.1)).trans h)
theorem Ziv:f8 [1,1,1,1,1,1,1,1,1,1,1,1,1]=Code.seq (f8 [1,1,1,1,1,1,1,1,1,1,1,1,1,0]) (Code.seq (f8 [1,1,1,1,1,1,1,1,1,1,1,1,1,1,0]) (Code.seq (f8 [1,1,1,1,1,1,1,1,1,1,1,1,1,1,1,0]) (f8 [1,1,1,1,1,1,1,1,1,1,1,1,1,1,1,1]))):=by kernel_rfl
def Aax(T:Tbs C)(hM:MAt C M1 W s)(hF:MFr M M1 z W)(hO:C.w0.heap.size<=z.heap.size)(ha:TreeAt W B a)(hf:a.free M1)(hst:(a.nt C.N).stm)(hm:(a.nt C.N).tree.many<=1500)(hI:Inv s 0)(hA:FAt s 1 ⟨st,0⟩)(gL:s.steps=0)(nf:s.top=1)(lf:Lo C M1 z W fb #[.bool st,vI 0] 78)
 (cu:kW w C.w0)(yl:w.heap.size<C.w0.heap.size)(mY:C.w0.heap[w.heap.size]?=some (.cells #[.slice none 0 0,vI 0,.string ⟨#[]⟩,vI 0,.slice none 0 0] 40 (0,0)))(fr:FrA 201 (MZ C w a [(6,vP fb)]) [] A)
 (hR:∀y a' w',(results f9 a'.tmps).run Tryz.prog w'=.ok y w'->a'.defers=[]->XW w (YE (pZ (T9 UD).2 1 ⟨st,0⟩ (a.nt C.N).kids s)) y w'->Q .ret a' w')(hQ:∀c a d v w,Q (.panic c) (Act.put a d v) w->Q (.panic c) a w) :
 (f8 [1,1,1,1,1,1,1,1,1,1,1,1,1]).wp Tryz.prog Q A W:=by
 obtain⟨r,hr⟩:=zX (pZ (T9 UD).2 1 ⟨st,0⟩ (a.nt C.N).kids s)
 rw[<-hr]at hR;have ao:=Wd hst hm;have cV:=(Zi0 T UD).2;have hD:=(Zb9 UD).2;have hb:(20001:Int)-(UD:Int)<=s.steps:=by rw[gL];show(20001:Int)-((20001:Nat):Int)<=0;decide
 have hs:s.steps<=20000:=Qe
 have am:=WR hD (a.nt C.N).kids s ao hI hA hb hs;rw[<-hr]at am;have hn:=Zla (C:=C) (a:=a) hm;refine Zxn ?_;intro bC;rw[Zw,zI]at hr;obtain⟨pb,cb,ch,bq,d7,cW⟩:=lL.slice ha.rowOf;obtain⟨qb,mD⟩:=zX a.kids.length
 rw[<-mD]at ch
 have HC:=lh (show∀m,kW W m->kC 28 #[vP C.mb,.slice pb qb cb,vI 1,.agg #[.bool st,vI 0]] m λe w'=>∃M' b k n t ev,e=.returned (.tuple #[.bool b,ag k n t,ev])/\mE C M1 m r w' M' b k n t ev from
  λm hB=>by
   have h:=Calls.dres (Z5c (fr:=⟨st,0⟩) cV hD (hM.below hB) hI hA hb hs (ha.bel hB) hf hn bC);rw[ch,<-hr]at h;exact h)
 have O:=lh (show∀m M' s',MAt C M' m s'->(s'=s\/s'=r.1)->MFr M1 M' W m->vC m a.b 3 (.slice pb qb cb)/\vC m C.mb 12 (vI 1)/\vC m fb 0 (.bool st)/\vC m fb 1 (vI 0)from
  λm M' s' rX dT f=>⟨by have:=(f.tree ha hf).1.c3;rwa[ch]at this,by
   have xB:=rX.gl.2.2;rcases dT with rfl|rfl;·rwa[nf]at xB
   .rwa[am.2.1.top,nf]at xB,(lf.fr f).cell rfl,(lf.fr f).cell rfl⟩)
 obtain⟨bL,HM,HF,HE,HO,HT,kS,Hp,xh,fe⟩:=mR am hM hF hF.size hO T cu yl mY hR;refine Xn ?_;intro fE;unfold MZ at fr;obtain⟨xt,rfl,e0,e2,e5,e6,-⟩:=Zcu fr;rw[e0,e2,e5,e6];clear e0 e2 e5 e6 fr;clear T hM hF hO ha hf hst hm hI hA gL nf lf cu yl mY hR hQ hr ao cV hD hb hs am hn bC ch bq d7 cW mD;rw[Ziv];refine c9 ?_;intro K HK
 refine Z2d (.take 0 (.take 1 (.take 2 (.take 3 (.take 4 (.take 5 (.take 6 (.take 7 (.take 8 (.take 9 (.two 10 (.take 11 (.take 12 (.take 13 (.take 14 (.go 15 (.go 16 (.go 17 (.go 18 (.nil))))))))) 15 (.go 10 (.take 11 (.take 12 (.take 13 (.take 14 (.go 16 (.go 17 (.go 18 (.nil)))))))))))))))))))) 17 (λW=>vC W a.b 3 (.slice pb qb cb)/\vC W C.mb 12 (vI 1)/\vC W fb 0 (.bool st)/\vC W fb 1 (vI 0)) Qh Qh (λc a d v w h=>fE.o _ c a d v w h) (O.o _ _ _ HM.o.drew (.inl rfl) (MFr.drew (.refl _ _))) ?_
 iterate 10
  first
   |(refine Z4z ?_ Qt Qt (λw'=>?_) ?_;rotate_left;(go_simp;first|done|with_reducible rfl);simp only[Act.put,zA,zB,zC])
   |(refine Z7t ?_ Qt Qh Qt (λw' lW=>?_) ?_;rotate_left;(obtain⟨s0,s1,s2,s3⟩:=lW;go_simp;first|done|with_reducible rfl);simp only[Act.put,zA,zB,zC])
 refine Zu ?_;apply Ziz (H:=Lz C z M1 W r)
 .intro cg;refine oK (λK hK=>?_);refine(HC.o _ (Zd _)).mono ?_;rintro e w1⟨M1,b,k,n,t,ev,rfl,hr⟩;have bB:=hr.pre (Zd _);refine hK _ _ (O.o _ _ _ bB.1 (.inr rfl) bB.2.1) ?_;have fY:=lh bB;clear bB hr hK K;refine Zx0 ?_;intro K hK;refine hK _ _ (O.o _ _ _ (fY.o.1.below (Z2 _ _)) (.inr rfl) (fY.o.2.1.trans (.of_below (Z2 _ _)))) ?_;clear hK K;refine U9 ?_;intro K hK;refine hK _ _ (O.o _ _ _ (fY.o.1.below (Z2 _ _)) (.inr rfl) (fY.o.2.1.trans (.of_below (Z2 _ _)))) ?_;clear hK K;try simp only[Act.put,zA,zB,zC]
  refine ta ?_;have u:=fY.o.boxA (wE:=z) HE.o HO.o;unfold vO at u;generalize w1.alloc (.cells #[vI k,vI n,.string t] 71)=W2 at u ⊢;generalize w1.heap.size=p at u ⊢;exact cg.o W2 p M1 b k n t ev u
 .intro cg;refine oK (λK hK=>?_);refine hK _ _ (O.o _ _ _ (HM.o.below (Z2 _ _)).drew (.inl rfl) (.drew (.of_below (Z2 _ _)))) ?_;clear hK K;refine U9 ?_;intro K hK;refine(HC.o _ (Z2 _ _).drew).mono ?_;rintro e w1⟨M1,b,k,n,t,ev,rfl,hr⟩;refine hK _ _ (O.o _ _ _ hr.1 (.inr rfl) ((MFr.of_below (Z2 _ _).drew).trans hr.2.1)) ?_;obtain⟨q0,q1,q2,z0,z1,z2⟩:=(mE.lo (wE:=z) hr HM.o HE.o HO.o).six;have u:=mE.boxB (wE:=z) hr HM.o HE.o HO.o;have cD:=lh (O.o _ _ _ hr.1 (.inr rfl) ((MFr.of_below (Z2 _ _).drew).trans hr.2.1));have fD:=lh u
  clear hr hK K u;refine Zx0 ?_;intro K hK;refine hK _ _ cD.o ?_;clear hK K;try simp only[Act.put,zA,zB,zC]
  refine ta ?_;clear q0 q1 q2 z0 z1 z2;have u:=fD.o;clear fD;generalize((w1.setCell ⟨W.heap.size,0,none⟩ (vI k)).setCell ⟨W.heap.size,1,none⟩ (vI n)).setCell ⟨W.heap.size,2,none⟩ (.string t)=W2 at u ⊢;generalize W.heap.size=p at u ⊢;exact cg.o W2 p M1 b k n t ev u
 intro W1 p1 M2 b1 k1 n1 t1 bQ U;refine HK.o _ _ ?_;clear HK K;refine c9 ?_;intro K HK;go_wp2_with fail
 refine HK.o _ _ ?_;clear HK K;have bX:=lh U.1.1;have bA:=lh U.1.2.1;have ar:=Z2 W1 (.cells #[.pointer none] 86);have cZ:=Lo.new (wE:=z) U.1.1 (Y4 HE.o U.1.2.1.size) HO.o #[.pointer none] 86;obtain⟨p,uG⟩:=zX W1.heap.size
 rw[<-uG]at cZ ⊢;obtain⟨W2,gF⟩:=zX (W1.alloc (.cells #[.pointer none] 86))
 rw[<-gF]at ar cZ ⊢;have bU:=lh (U.1.1.below ar);have Z:=lh cZ;have dg:vC W2 0 0 (ql C.eb):=((U.1.1.below ar).old.cell HT.o.ok.stopB).trans HT.o.ok.stop;have Hq:=U.1.2.2;obtain⟨s9,q9⟩:=r;have aP:=lh ar;clear U gF ar cZ HC O HM HE;cases q9 with
 |ok v9=>
   obtain⟨-,rfl⟩:=Hq;refine Zvj ?_;intro c3 c4 c5 c2 c6 y3 C2 C4 C5 C6 C3;have vQ:=Zr4 C.eb W2;unfold ql at dg vQ;clear c2 c4 c5 c6 uG;refine c9 ?_;intro K HK;go_wp2_with fail
   refine(Zlx _ _).mono ?_;rintro e W3⟨rfl,yo⟩;rw[yo];clear yo W3;go_wp2_with fail
   refine HK.o _ _ ?_;clear HK K
   refine Zlf kS.o Hp.o bU.o (code:=1) (val:=⟨#[]⟩) (λk hk=>Y8 _ _ _ _ hk) QJ ⟨rfl,rfl,rfl⟩ ((Yr _ _ _ _ Qr).trans C2.o) (World.cell?_setCell_same _ _ _ C3.o) ((Yr _ _ _ _ Qr).trans C4.o) ((Yr _ _ _ _ Qr).trans C5.o) ((Yr _ _ _ _ Qr).trans C6.o) xh.o ⟨rfl,⟨rfl,rfl,rfl,trivial⟩,rfl⟩ (λy a' w' I J F=>fe.o y a' w' I J F)
 |error x9=>
   cases x9 with
   |stop=>
     have gN:bQ=ql C.eb:=Hq;refine Zvj ?_;intro c3 c4 c5 c2 c6 y3 C2 C4 C5 C6 C3;have vQ:=Zm8 C.eb W2;subst gN;unfold ql at dg vQ ⊢;clear c2 c4 c5 c6 uG;refine c9 ?_;intro K HK;go_wp2_with fail
     refine HK.o _ _ ?_;clear HK K
     refine Zlf kS.o Hp.o bU.o (code:=3) (val:=⟨#[]⟩) (λk hk=>Y8 _ _ _ _ hk) QJ ⟨rfl,rfl,rfl⟩ ((Yr _ _ _ _ Qr).trans C2.o) (World.cell?_setCell_same _ _ _ C3.o) ((Yr _ _ _ _ Qr).trans C4.o) ((Yr _ _ _ _ Qr).trans C5.o) ((Yr _ _ _ _ Qr).trans C6.o) xh.o ⟨rfl,⟨rfl,rfl,rfl,trivial⟩,rfl⟩ (λy a' w' I J F=>fe.o y a' w' I J F)
   |thr v0=>
     obtain⟨g,gN,gJ,uh⟩:=Hq;have cX:g<W1.heap.size:=(Y1.1 gJ).1;have vJ:g≠C.mb:=λe=>uh (e▸bX.o.mbHas);have Lg:g≠p:=by rw[uG];omega
     have lJ:p<W2.heap.size:=(Y1.1 Z.o.blk).1;have vQ:=Zr1 C.eb g W2;subst gN;unfold ql at dg;unfold ql sN at vQ;unfold sN;obtain⟨i1,-,-,eo,-⟩:=bL.o;obtain⟨vk,vn,vt⟩:=v0;obtain⟨z2,aR,xd⟩:∃z2,kW W2 z2/\kC 16 #[.iface 86 (vP g),.iface 87 (vP p)] W2 λev w'=>ev=.returned (.bool true)/\w'=z2.setCell ⟨p,0,none⟩ (vP g):=by
      refine⟨_,?_,Ze0 ⟨g,0,none⟩ ⟨p,0,none⟩ (.pointer none) W2 (HT.o.et.below bU.o.old) (Z.o.cell rfl) (Z.o.fz 0)⟩;have A:∀{W:kV} (o:Obj),kW W2 W->kW W2 (W.alloc o):=λo h=>h.alloc h.size o;exact A _ (A _ (A _ (Z2 _ _)))
     obtain⟨om,-,xf⟩:=(Z.o.bel aR).put (bU.o.below aR) ((HF.o.trans bA.o).trans (.of_below (aP.o.trans (aR.mono aP.o.size)))) Qg Qg 0 (vP g);have lF:(z2.setCell ⟨p,0,none⟩ (vP g)).heap[g]?=some (mc ⟨vk,vn,vt⟩):=(Y8 _ _ _ _ Lg).trans (((aP.o.trans (aR.mono aP.o.size)).block g cX).trans gJ);obtain⟨z3,rI⟩:=zX (z2.setCell ⟨p,0,none⟩ (vP g))
     rw[<-rI]at xd om xf lF;have qO:g<z3.heap.size:=(Y1.1 lF).1;have nC:=λ(m:kV) (hW:kW z3 m)=>Zpt HT.o.pw (om.below hW) i1 ⟨vk,vn,vt⟩ eo;obtain⟨tx,be⟩:=zX (s9.H.shown ⟨vk,vn,vt⟩)
     have fe:=lh (show∀y a' w',(results f9 a'.tmps).run Tryz.prog w'=.ok y w'->a'.defers=[]->XW w ⟨s9.log,2,tx,s9.steps,s9.seen⟩ y w'->Q .ret a' w' from λy a' w' I J F=>fe.o y a' w' I J (by rw[be]at F;exact F));rw[<-be]at nC;simp only[LVal.agg]at nC;obtain⟨He,dH,sJ⟩:=ds nC om xd
     have HY:=lh (show∀m,kW z3 m->vC m p 0 (vP g)/\vC m g 0 (vI vk)/\vC m g 1 (vI vn)/\vC m g 2 (.string vt)from
      λm f=>have hw:=(f.block g qO).trans lF;⟨(xf.bel f).cell rfl,by simp[vC,World.cell?,hw,mc,LVal.arr],by simp[vC,World.cell?,hw,mc,LVal.arr],by simp[vC,World.cell?,hw,mc,LVal.arr]⟩)
     have tB:=lh (Yu vJ (show p≠C.mb from λe=>Z.o.free (e▸bU.o.mbHas)));clear cX vJ Lg lJ i1 eo aR xd om xf lF rI qO nC be gJ uh bL bX bA HF aP HO Z uG;refine c9 ?_;intro K HK;go_wp2_with fail
     refine sJ.o.mono ?_;rintro e W3⟨rfl,rfl⟩;clear dg vQ sJ;go_wp2_with fail
     refine Z9 [(true,0),(true,1),(true,2),(true,3),(true,4),(true,5),(true,6),(true,7),(true,8),(false,9),(true,10),(true,11),(true,12),(false,13)] [14,15,16,17] (λW=>vC W p 0 (vP g)/\vC W g 0 (vI vk)/\vC W g 1 (vI vn)/\vC W g 2 (.string vt)) Qh Qh (λc a d v w h=>fE.o K c a d v w h) (HY.o _ (Zd _)) (λbw=>?_);refine iB ?_;intro K hK;refine(He.o _ (Zd _)).mono ?_;rintro e W4⟨rfl,eI⟩
     have eI:=(Zd W3).trans (eI.mono (Y0 _));refine hK _ _ (HY.o _ eI) ?_;clear hK K;have Y:=lh (dH.o.below eI);have OA:=lh (HY.o _ eI);clear eI;refine pU ?_;have c3:=Y.o.cell 3 (vI 0) Qq;have c4:=Y.o.cell 4 (.string ⟨#[]⟩) Qq;have c5:=Y.o.cell 5 (vI s9.steps) Qq;have c2:=Y.o.rcell 0 Qg;have c6:=Y.o.rcell 1 Qg;have y3:=Y.o.fz 3;have y4:=Y.o.fz 4;obtain⟨C2,C4,C5,C6,C3⟩:=gq c2 c4 c5 c6 c3;clear c2 c5 c6
     refine Ze (λK hK=>?_);go_simp
     refine hK _ _ ?_ ?_
     .obtain⟨g0,I,J,F⟩:=OA.o;refine⟨?_,?_,?_,?_⟩;·exact(Yr _ _ _ _ Qr).trans g0
      .exact(Yr _ _ _ _ Qr).trans I
      .exact(Yr _ _ _ _ Qr).trans J
      .exact(Yr _ _ _ _ Qr).trans F
     clear hK K;refine Z1 ?_;go_wp2_with fail
     refine HK.o _ _ ?_;clear HK K
     refine Zlf kS.o Hp.o Y.o (code:=2) (val:=tx) (λk hk=>(Y8 _ _ _ _ hk).trans (Y8 _ _ _ _ hk)) QJ ⟨rfl,rfl,rfl⟩ (X1 Qg Qg C2.o) ((Yr _ _ _ _ Qr).trans (World.cell?_setCell_same _ _ _ C3.o)) (World.cell?_setCell_same _ _ _ ((Yr _ _ _ _ Qr).trans C4.o)) (X1 Qg Qg C5.o) (X1 Qg Qg C6.o) xh.o ⟨rfl,⟨rfl,rfl,rfl,trivial⟩,rfl⟩ (λy a' w' I J F=>fe.o y a' w' I J F)
end
structure RunW(w:kV)(eb:Addr):Prop where
 stop:vC w 0 0 (ql eb)
 pw:K' w
 wd:Words w
 lv:EO w w.heap.size
 et:Tk w
def RunW.lt{w:kV}{eb:Addr}(h:RunW w eb):0<w.heap.size:=by
 rcases Nat.lt_or_ge 0 w.heap.size with g|g;·exact g
 .have:=h.stop;simp[vC,World.cell?,Array.getElem?_eq_none g]at this
def RunW.bel{w w':kV}{eb:Addr}(h:RunW w eb)(g:kW w w'):RunW w' eb:=
 ⟨(g.cell (p:=⟨0,0,none⟩) h.lt).trans h.stop,h.pw.below g,h.wd.below g,EO.mono (h.lv.keep λk hk=>g.block k hk) g.size,h.et.below g⟩
def s5(a:ATree)(b:Nat):Int:=match(tU lQ a []).find? (λx=>x.1==b)with|some x=>x.2|none=>-3
def Zag(w:kV)(a:ATree)(e:Ending)(w':kV):Prop:=∃y,e=.returned y/\if AO a false false=0 then XW w (iz (a.nt (s5 a))) y w' else y=.tuple #[.agg #[.slice none 0 0,vI 0,.string ⟨#[]⟩,vI 0,.slice none 0 0],cL (AO a false false)]/\kW w w'
def Acl{w:kV}{B:Nat}:∀{a:ATree},TreeAt w B a->∀x∈a.subs,tm w x.b:=by
 intro a h;induction h with
 | @mk b v k t n m blk le row hk o=>
   intro x hx;have g:∀l:List ATree,(∀y∈l,y∈m)->x∈nc l->tm w x.b:=by
    intro l;induction l with
    |nil=>intro _ h;simp[nc]at h
    |cons y l p=>
      intro hl h;simp only[nc,List.mem_append]at h;rcases h with h|h;·exact o y (hl y (Yw ..)) x h
      .exact p (λz u=>hl z (List.mem_cons_of_mem _ u)) h
   simp only[ATree.subs,List.mem_cons]at hx;rcases hx with rfl|hx;·exact⟨_,_,blk⟩
   .exact g m (λ_ h=>h) hx
def Zsx{w:kV}{eb:Addr}{B nb mb:Nat}{a:ATree}(h:RunW w eb)(g:TreeAt w B a)(m:(a.subs.map (·.b)).Nodup)(o:pr w nb (tU lQ a [])):Tbs ⟨w,mb,nb,eb,tU lQ a []⟩:=by
 have hk:=Z9f a [];simp only[List.map_nil,List.nil_append]at hk;refine⟨⟨h.stop,h.lt,o,?_,by show((tU lQ a []).map (·.1)).Nodup;rw[hk];exact m⟩,h.pw,h.wd,h.lv,h.et⟩;intro x hx;have:x.1∈a.subs.map (·.b):=by rw[<-hk];exact List.mem_map.2 ⟨x,hx,rfl⟩
 obtain⟨y,p,e⟩:=List.mem_map.1 this;rw[<-e];exact Acl g y p
def Zsa{n:NT}(hst:n.stm)(O:n.tree.many<=1500){m:MSt}(F:m=n.vars.foldl Tv Dk) :
 Inv Dk (19993-1500+n.vars.length)/\Inv m (16000+n.kids.length)/\m.top=1/\Inv (m.lets n.lets 1) (6*n.funcs.length)/\(m.lets n.lets 1).glob=0/\(m.lets n.lets 1).top=1/\1<(m.lets n.lets 1).H.scopes.length/\TQ n=(m.lets n.lets 1).funcs (λs _=>s) (λs t v=>s.put 0 t v true) n.funcs 1 ⟨n.strict,0⟩/\(TQ n).top=1:=by
 refine Ztw ?_;intro hq l1 l2 l3;obtain⟨I,a2,-,-⟩:=Zcg (s:=TW);obtain⟨y,i2⟩:=ZE Tv 1 Dk (λ_=>True) (λs d b _ _ h=>Zee h) n.vars Dk 18000 (λ_ _=>trivial) (Ext.refl _) (I.less Qe);rw[<-F]at y i2;obtain⟨J,U⟩:=Wi (l:=n.lets) (sc:=1) (d:=16000) (y.less Qe);have o:=i2.trans U;have e:TQ n=(m.lets n.lets 1).funcs (λs _=>s) (λs t v=>s.put 0 t v true) n.funcs 1 ⟨n.strict,0⟩:=by rw[F];rfl
 have X:(1:Int)<(m.lets n.lets 1).H.scopes.length:=by have h5:(1:Int)<Dk.H.scopes.length:=a2.hi;have:=o.ls;omega
 obtain⟨k1,Y⟩:=Z6m (p:=λs _=>s) (g:=λs t v=>s.put 0 t v true) (d:=0) (l:=n.funcs) (sc:=1) (fr:=⟨n.strict,0⟩) (J.less Qe) (Wq hst O) Qg X
  (λu e x _ hi=>⟨hi.less Qe,Ext.refl _⟩) (λu e x v _ hi Z=>CC hi Z)
 exact⟨I.less Qe,y.less Qe,i2.top,J.less Qe,o.glob,o.top,by omega,e,by rw[e];exact Y.top.trans o.top⟩
theorem Zl2:f8 []=Code.seq (f8 [0]) (Code.seq (f8 [1,0]) (Code.seq (f8 [1,1,0]) (Code.seq (f8 [1,1,1,0]) (f8 [1,1,1,1])))):=by kernel_rfl
theorem Zjj:f8 [1,1,1,1,1,1,1,1,1,1]=Code.seq (f8 [1,1,1,1,1,1,1,1,1,1,0]) (Code.seq (f8 [1,1,1,1,1,1,1,1,1,1,1,0]) (Code.seq (f8 [1,1,1,1,1,1,1,1,1,1,1,1,0]) (f8 [1,1,1,1,1,1,1,1,1,1,1,1,1]))):=by kernel_rfl
section
variable {C:RCtx}{M M1:MRep}{w z W:kV}{s:MSt}{B:Nat}{a:ATree}{A:Act}{Q:Exit->Act->kV->Prop}
def Zwt(T:Tbs C)(X:MAt C M z MSt.new)(Y:TreeAt z B a)(hf:a.free M)(hst:(a.nt C.N).stm)(o:(a.nt C.N).tree.many<=1500)
 (cu:kW w C.w0)(yl:w.heap.size<C.w0.heap.size)(mY:C.w0.heap[w.heap.size]?=some (.cells #[.slice none 0 0,vI 0,.string ⟨#[]⟩,vI 0,.slice none 0 0] 40 (0,0)))(fr:FrA 201 (MZ C w a []) [] A)
 (hR:∀y a' w',(results f9 a'.tmps).run Tryz.prog w'=.ok y w'->a'.defers=[]->XW w (iz (a.nt C.N)) y w'->Q .ret a' w')(p:∀c a d v w,Q (.panic c) (Act.put a d v) w->Q (.panic c) a w) :
 (f8 [1,1,1,1]).wp Tryz.prog Q A z:=by
 obtain⟨n,hn⟩:=zX (a.nt C.N)
 obtain⟨s3,Z⟩:=zX (n.vars.foldl Tv Dk)
 have I:=hst;have J:=o;rw[<-hn]at I J;obtain⟨m1,m2,m3,m4,m5,m6,m7,m8,m9⟩:=Zsa I J Z;obtain⟨n1,n2,n3,n4⟩:=Zek I J;have O:n.strict=Zj a:=by rw[hn];exact Z6k
 have dr:n.vars=yi a:=by rw[hn];exact Wk
 have aY:a.kids.length=n.kids.length:=by rw[hn,Zw,zI,Ym]
 have nK:a.many<=1500:=by rw[WG,U8]at o;exact o
 have s6:a.kids.length<=1500:=by have:=Td (n:=n);omega
 have hz:=X.old.size;refine Zqk X Y hf fr (λA1 W1 M1 fb OB dZ dc Lh=>?_) p;rw[Zjj];have m:∀{M':MRep} {W':kV},MFr M1 M' W1 W'->TreeAt W' B a/\a.free M':=λf=>(dc.trans f).tree Y hf;refine wp_seq_k (λK g=>?_);refine Zuj (d:=18000) (s:=Dk) dZ rfl rfl (m (.refl _ _)).1 nK (m1.less (by rw[<-dr];have:=Z8a (n:=n);omega)) OB (λA2 W2 M2 BG aO U=>g _ _ ?_) (λc a d v w h=>p c a d v w h);clear g K;rw[<-hn,<-Z]at aO;refine wp_seq_k (λK g=>?_)
 refine Ztt (d:=16000) aO m3 (m U).1 (m U).2 s6 (m2.less Qe) BG (λA3 W3 M3 ur dE bh=>g _ _ ?_);clear g K;rw[<-hn]at dE;have u:=U.trans bh;refine wp_seq_k (λK g=>?_);refine Zq9 (d:=0) (st:=Zj a) T.ok dE m5 m6 (m u).1 (m u).2 ⟨hst,o⟩ s6 (Lh.fr u) (m4.less (by rw[<-hn];omega)) m7 ur (λA4 W4 M4 uu fG bg=>g _ _ ?_) (λc a d v w h=>p c a d v w h);clear g K;rw[<-hn,<-O,<-m8]at fG;have F:=u.trans bg;rw[O]at n2
 refine Aax (st:=Zj a) T fG (dc.trans F) hz (m F).1 (m F).2 hst o n1 n2 n3 m9 (Lh.fr F) cu yl mY uu (λy a' w' g1 g2 g3=>hR y a' w' g1 g2 ?_) p;rw[<-hn]at g3 ⊢;unfold iz;rw[O];exact g3
end
def Zun(w:kV)(B:Nat)(a:ATree)(eb:Addr)(hW:RunW w eb)(F:TreeAt w B a)(hA:WA a)(Y:(a.subs.map (·.b)).Nodup)(hst:Wf .sl a.tree.kids)(hm:a.many<=1500) :
 kC 9 #[a.ptr] w (Zag w a):=by
 obtain⟨p,I⟩:=zX (w.alloc (.cells #[.slice none 0 0,vI 0,.string ⟨#[]⟩,vI 0,.slice none 0 0] 40))
 have Z:kW w p:=by rw[I];exact Z2 _ _
 have jE:p.heap[w.heap.size]?=some (.cells #[.slice none 0 0,vI 0,.string ⟨#[]⟩,vI 0,.slice none 0 0] 40 (0,0)):=by rw[I];exact Yq _ _
 have mC:w.heap.size<p.heap.size:=(Y1.1 jE).1;have J:=Zct p B a false false (F.bel Z) hA Qe;have hnu:=λ(W:kV) (hB:kW w W)=>Zjn W B a (F.bel hB) Y;simp only[ATree.ptr]at J hnu;obtain⟨c,hc⟩:=zX (AO a false false)
 have BU:=lh (show∀e w',(∃y,e=.returned y/\if c=0 then XW w (iz (a.nt (s5 a))) y w' else y=.tuple #[.agg #[.slice none 0 0,vI 0,.string ⟨#[]⟩,vI 0,.slice none 0 0],cL c]/\kW w w')->Zag w a e w' from λe w' h=>by unfold Zag;rw[<-hc];exact h);rw[<-hc]at J;obtain⟨GU,OC,HW,HT,OD,ip,HM,HZ,m,bG,jY⟩:=rt J hnu hW F Y hst hm I Z jE mC;refine calls_of_wp (c:=f8 []) func9 Ztm ?_
 simp only[ntmps9,ATree.ptr,List.size_toArray,List.length_cons,List.length_nil,Nat.reduceAdd,Nat.reduceSub,Array.replicate_succ,Array.replicate_zero,List.push_toArray,List.append_toArray,List.nil_append,List.cons_append];clear J hnu hW F Y hst hm I Z jE mC hc hA;rw[Zl2];refine c9 ?_;intro K HK;go_wp2_with fail
 rw[<-HZ.o];refine HK.o _ _ ?_;clear HK K;refine c9 ?_;intro K HK;go_wp2_with fail
 refine HK.o _ _ ?_;clear HK K;refine c9 ?_;intro K HK;go_wp2_with fail
 refine GU.o.mono ?_;rintro e w2⟨rfl,ar⟩;have O:=lh ar;have U:w2.heap[w.heap.size]?=some (.cells #[.slice none 0 0,vI 0,.string ⟨#[]⟩,vI 0,.slice none 0 0] 40 (0,0)):=(ar.block _ jY.o).trans bG.o;have sA:=lh U;clear ar U;by_cases o:c=0
 .have X:=lh o;rw[show cL c= .nilIface from Y5 o];clear o;go_wp2_with fail
  refine HK.o _ _ ?_;clear HK K;refine c9 ?_;intro K HK;go_wp2_with fail
  refine(OC.o w2 (m.o.trans (O.o.mono m.o.size))).mono ?_;rintro e w3⟨nb,rfl,hP,u,dl⟩;have HP:=lh hP;have g:=lh u;clear hP u dl;go_wp2_with fail
  refine HK.o _ _ ?_;clear HK K;have ai:=m.o.trans (O.o.mono m.o.size);have bo:=ai.trans (g.o.mono ai.size);obtain⟨M,hM⟩:=Zww w3 nb eb (tU lQ a []);have mt:=HT.o.bel bo;refine Zwt (w:=w) (B:=B) (a:=a) (Zsx (mb:=w3.heap.size) (HW.o.bel bo) mt OD.o HP.o) hM (mt.bel (Z2 _ _)) (λk hk=>?_) ?_ ?_ bo ?_ ?_ ⟨rfl,⟨rfl,rfl,rfl,trivial⟩,rfl⟩ (λy a' w' g1 g2 g3=>Yp g1 g2 (BU.o _ _ ⟨y,rfl,?_⟩)) (λc a d v w h=>by cases d<;>exact h)
  .obtain⟨c,T,f,h1,-⟩:=mt.typed k hk;exact hM.far k (Y1.1 h1).1
  .show Wf .sl (qa (ATree.nt _ a).kids);rw[<-E1,WG];exact ip.o
  .rw[WG,U8];exact HM.o
  .have h1:=jY.o;have h2:=O.o.size;have h3:=g.o.size;show w.heap.size<w3.heap.size;omega
  .exact(g.o.block _ (Y1.1 sA.o).1).trans sA.o
  .rw[Y5 X.o];exact g3
 .have X:=lh o;rw[show cL c= .iface 35 (vI c)from Y3 o];clear o;have q:=sA.o;have U:w2.cell? ⟨w.heap.size,0,none⟩=some (.slice none 0 0):=by simp[vC,World.cell?,q]
  have z0:w2.frozen? ⟨w.heap.size,0,none⟩=false:=Ri
  have q1:w2.cell? ⟨w.heap.size,1,none⟩=some (vI 0):=RC
  have p:w2.frozen? ⟨w.heap.size,1,none⟩=false:=Ri
  have q2:w2.cell? ⟨w.heap.size,2,none⟩=some (.string ⟨#[]⟩):=RC
  have z2:w2.frozen? ⟨w.heap.size,2,none⟩=false:=Ri
  have q3:w2.cell? ⟨w.heap.size,3,none⟩=some (vI 0):=RC
  have z3:w2.frozen? ⟨w.heap.size,3,none⟩=false:=Ri
  have q4:w2.cell? ⟨w.heap.size,4,none⟩=some (.slice none 0 0):=RC
  have z4:w2.frozen? ⟨w.heap.size,4,none⟩=false:=Ri
  clear q;go_wp2_with fail
  refine Yp (v:=.tuple #[.agg #[.slice none 0 0,vI 0,.string ⟨#[]⟩,vI 0,.slice none 0 0],.iface 35 (vI c)]) ?_ rfl ?_;·simp[results,results9,go_sem,U,q1,q2,q3,q4]
  .refine BU.o _ _ ⟨_,rfl,?_⟩;rw[Y3 X.o,show cL c=.iface 35 (vI c)from Y3 X.o];refine⟨rfl,?_⟩;have hb:=m.o.trans (O.o.mono m.o.size);exact⟨hb.os,hb.tape,hb.output,by simpa[World.setCell]using hb.size,λk hk=>by
    rw[Y8 _ _ _ _ (show k≠w.heap.size by omega),Y8 _ _ _ _ (show k≠w.heap.size by omega),Y8 _ _ _ _ (show k≠w.heap.size by omega),Y8 _ _ _ _ (show k≠w.heap.size by omega),Y8 _ _ _ _ (show k≠w.heap.size by omega)];exact hb.block k hk⟩
def Zg9:kB:=⟨#[118,97,114,32,97,32,61,32,50,59,32,112,114,105,110,116,40,97,32,42,32,51,41,59]⟩
def Zg4:Tree:=.mk 1 ⟨#[]⟩ 0 [.mk 2 ⟨#[97]⟩ 0 [.mk 17 ⟨#[]⟩ 2 []],.mk 15 ⟨#[]⟩ 0 [.mk 35 ⟨#[]⟩ 0 [.mk 23 ⟨#[112,114,105,110,116]⟩ 0 [],.mk 31 ⟨#[]⟩ 0 [.mk 23 ⟨#[97]⟩ 0 [],.mk 17 ⟨#[]⟩ 3 []]]]]
theorem Zdy:Zm Zg9=.ok Zg4:=by kernel_rfl
def Zu3(a b c d e f g h i:Int):NT:=.mk a 1 ⟨#[]⟩ 0 [.mk b 2 ⟨#[97]⟩ 0 [.mk c 17 ⟨#[]⟩ 2 []],.mk d 15 ⟨#[]⟩ 0 [.mk e 35 ⟨#[]⟩ 0 [.mk f 23 ⟨#[112,114,105,110,116]⟩ 0 [],.mk g 31 ⟨#[]⟩ 0 [.mk h 23 ⟨#[97]⟩ 0 [],.mk i 17 ⟨#[]⟩ 3 []]]]]
theorem Zqq(a b c d e g i:Int)(f h:Nat):(iz (Zu3 a b c d e (Int.ofNat f) g (Int.ofNat h) i)).code=1:=by kernel_rfl
theorem Zsp(a b c d e g i:Int)(f h:Nat):(iz (Zu3 a b c d e (Int.ofNat f) g (Int.ofNat h) i)).log=[⟨#[54]⟩]:=by kernel_rfl
def Zog{a x:ATree}(hx:x∈a.subs):∃k:Nat,s5 a x.b=Int.ofNat k:=by
 have h:=Ze9 a x hx;unfold s5;cases hf:(tU lQ a []).find? (λy=>y.1==x.b)with
 |none=>exact absurd (List.find?_eq_none.1 hf _ h) Qm
 |some y=>exact⟨y.2,rfl⟩
def Tf{a:ATree}{k:Int}{s:kB}{n:Int}{l:List Tree}(h:a.tree=.mk k s n l):∃b v g,a=.mk b v k s n g/\f6 g=l:=by
 obtain⟨b,v,m,s',o,g⟩:=a;simp only[ATree.tree,Tree.mk.injEq]at h;obtain⟨rfl,rfl,rfl,h⟩:=h;exact⟨b,v,g,rfl,h⟩
def TC{l:List ATree}{t:Tree}{r:List Tree}(h:f6 l=t::r):∃a g,l=a::g/\a.tree=t/\f6 g=r:=by
 cases l with
 |nil=>simp[f6]at h
 |cons a l=>simp only[f6,List.cons.injEq]at h;exact⟨a,l,rfl,h.1,h.2⟩
def Tg{l:List ATree}(h:f6 l=[]):l=[]:=by
 cases l with
 |nil=>rfl
 |cons a l=>simp[f6]at h
def Zqh{a:ATree}(h:a.tree=Zg4):AO a false false=0/\(iz (a.nt (s5 a))).code=1/\(iz (a.nt (s5 a))).log=[⟨#[54]⟩]:=by
 have hn:=λx hx=>Zog (a:=a) (x:=x) hx;obtain⟨N,m⟩:=zX (s5 a)
 rw[<-m]at hn ⊢;clear m;obtain⟨o,v0,l0,rfl,G⟩:=Tf h;obtain⟨a1,r0,rfl,I,J⟩:=TC G;obtain⟨a2,r1,rfl,O,U⟩:=TC J;obtain rfl:=Tg U;obtain⟨b1,X,l1,rfl,Y⟩:=Tf I;obtain⟨a3,r2,rfl,Z,e2⟩:=TC Y;obtain rfl:=Tg e2;obtain⟨b3,v3,l3,rfl,g3⟩:=Tf Z;obtain rfl:=Tg g3;obtain⟨b2,v2,l2,rfl,g2⟩:=Tf O;obtain⟨a4,r3,rfl,h4,e3⟩:=TC g2;obtain rfl:=Tg e3;obtain⟨b4,v4,l4,rfl,g4⟩:=Tf h4;obtain⟨a5,r4,rfl,h5,e4⟩:=TC g4;obtain⟨a6,r5,rfl,h6,e5⟩:=TC e4;obtain rfl:=Tg e5;obtain⟨b5,v5,l5,rfl,g5⟩:=Tf h5
 obtain rfl:=Tg g5;obtain⟨p,v6,l6,rfl,g6⟩:=Tf h6;obtain⟨a7,r6,rfl,h7,e6⟩:=TC g6;obtain⟨a8,r7,rfl,h8,e7⟩:=TC e6;obtain rfl:=Tg e7;obtain⟨b7,u,l7,rfl,g7⟩:=Tf h7;obtain rfl:=Tg g7;obtain⟨y,v8,l8,rfl,g8⟩:=Tf h8;obtain rfl:=Tg g8;obtain⟨f,hf⟩:=hn (.mk b5 v5 23 ⟨#[112,114,105,110,116]⟩ 0 []) (by simp[ATree.subs,nc]);obtain⟨g,F⟩:=hn (.mk b7 u 23 ⟨#[97]⟩ 0 []) (by simp[ATree.subs,nc]);simp only[ATree.b]at hf F
 have e:ATree.nt N (.mk o v0 1 ⟨#[]⟩ 0 [.mk b1 X 2 ⟨#[97]⟩ 0 [.mk b3 v3 17 ⟨#[]⟩ 2 []],.mk b2 v2 15 ⟨#[]⟩ 0 [.mk b4 v4 35 ⟨#[]⟩ 0 [.mk b5 v5 23 ⟨#[112,114,105,110,116]⟩ 0 [],.mk p v6 31 ⟨#[]⟩ 0 [.mk b7 u 23 ⟨#[97]⟩ 0 [],.mk y v8 17 ⟨#[]⟩ 3 []]]]])=Zu3 (N o) (N b1) (N b3) (N b2) (N b4) (Int.ofNat f) (N p) (Int.ofNat g) (N y):=by
  rw[<-hf,<-F];rfl
 rw[e];exact⟨rfl,Zqq ..,Zsp ..⟩
