import Derived.Test.YtkebnpemgkjpkaaGreatDoorJ26
import Derived.Test.YtkebnpemgkjpkaaGreatDoorJ27
set_option maxRecDepth 100000
set_option maxHeartbeats 20000000
set_option maxRecDepth 1000000
set_option linter.all false
namespace Go.Proofs.YtkebnpemgkjpkaaGreatDoor
open Go Go.RowKit Go.Proofs.Tryz Tryz
section
variable {C:RCtx}{M M':MRep}{w w':kV}{s s':MSt}{B:Nat}{a:ATree}{V:VF}{D:DF}{b:Int}{sc:Int}{fr:Frm}{d:Nat}
def Zg1{D:DF}:∀l:List NT,vX D sc fr l (s,.error .stop)=(s,.error .stop)
 | []=>rfl
 |k::l=>rfl
def Zfl{D:DF}{k:NT}{l:List NT}{v:LVal}(h:k.kind≠13):vX D sc fr (k::l) (s,.error (.thr v))=match D (k.kid 0) sc fr s with
 |(s1,.ok (false,_))=>vX D sc fr l (s1,.error (.thr v))
 |x=>vX D sc fr l x:=by
 exact Zyh
def Zm2{D:DF}{k:NT}{l:List NT}{r:Bool×LVal}(h:k.kind≠13):vX D sc fr (k::l) (s,.ok r)=match D (k.kid 0) sc fr s with
 |(s1,.ok (false,_))=>vX D sc fr l (s1,.ok r)
 |x=>vX D sc fr l x:=by
 exact Zyh
def Zqj(hC:C.Ok)(oE:Tb C.w0)(cT:G8 C D b)(hD:DH D b)(h:MAt C M w s)(hI:Inv s (d+4))(hA:FAt s sc fr)(hb:b<=s.steps)(hs:s.steps<=20000)(ha:TreeAt w B a)(hf:a.free M){x0:ATree}{l:List ATree}(co:a.kids=x0::l)
 (w0:(x0.nt C.N).wf .s)(m0:(x0.nt C.N).tree.many<=1500)(hl:l.length<=2)(kj:1<=l.length)(fj:∀k∈l,(k.kind=13\/k.kind=14)/\∃c,k.kids=[c]/\(c.nt C.N).wf .s/\(c.nt C.N).tree.many<=1500) :
 kC 84 #[vP C.mb,a.ptr,vI sc,.agg #[.bool fr.strict,vI fr.vars]] w λe w'=>je C M w (Ni D (a.nt C.N) sc fr s) e w':=by
 obtain⟨R,hR⟩:=zX (Ni D (a.nt C.N) sc fr s)
 rw[<-hR];unfold Ni at hR;have e0:(a.nt C.N).kid 0=x0.nt C.N:=wX QE;have e1:(a.nt C.N).kids.tail=l.map (ATree.nt C.N):=by rw[Zu,AC,co];rfl
 rw[e0,e1]at hR;refine Om ?_;intro aP lf lr z hz;rw[<-hz]at aP lf lr;refine Sp ?_;intro aD aI;obtain⟨q,hq⟩:=zX l.length
 obtain⟨kg,kc,c3,cC,aR,bO,aX,eZ⟩:=aI.row hf Qe;rw[co]at c3 cC bO;have dX:x0∈a.kids:=Qe
 have k0:=bO 0 x0 rfl;simp only[List.length_cons,<-hq]at c3 cC;have aq:∀W M',MFr M M' z W->vC W w.heap.size 0 (.bool fr.strict)/\vC W w.heap.size 1 (vI fr.vars)/\vC W a.b 3 (.slice (some ⟨kg,0,none⟩) (q+1) kc)/\vC W kg 0 (vP x0.b):=λW M' f=>⟨(lf.fr f).cell rfl,(lf.fr f).cell rfl,(f.cell aI.lt hf.blk).trans c3,(f.cell aX eZ).trans k0⟩;obtain⟨r1,bz⟩:=zX (D (x0.nt C.N) sc fr s)
 have bE:=lh (cT.from aD hI hA hb hs w0 m0 (aI.kid dX) (hf.kid dX));have an:=(hD (x0.nt C.N) sc fr s _ w0 m0 hI hA hb hs).1;rw[<-bz]at bE an hR;obtain⟨bI,HR,HS,J⟩:=en (an.less (e:=d+2*q) Px) hR aq lr;refine FR ?_;intro dB HBZ HM HO HE;obtain⟨gZ,HB,iP,HD,qy,vM⟩:=gq hA hb cT hD hC oE;refine Zzb ?_;intro lp;have qZ:=lh (show∀y∈l,TreeAt z B y/\y.free M from λy hy=>⟨aI.kid Rx,hf.kid Rx⟩);have jy:=lh fj
 obtain⟨mD,HBZ,fm,xY,HQ,HZ⟩:=gq (Y4 h.old.size aP.size) aP aX eZ hq hz;have ni:1<=q/\q<=2:=Px
 have d3:=(aq z M (.refl _ _)).2.2.1;clear hz aD lf lr aP aI ha hf h hI hA hR co e0 e1 c3 k0 bO dX aq bz an cT hD hb hs hC oE fj aX eZ hq hl kj;unfold ATree.ptr;go_enter func84,ntmps84
 go_wp2_with fail
 rw[<-HZ.o]
 refine vy (.take 0 (.take 1 (.take 2 (.take 3 (.take 4 (.take 5 (.take 6 (.take 7 (.take 8 (.two 9 (.take 10 (.take 11 (.take 12 (.take 13 (.go 14 (.go 15 (.go 16 (.go 17 (.nil))))))))) 14 (.go 9 (.take 10 (.take 11 (.take 12 (.take 13 (.go 15 (.go 16 (.go 17 (.nil))))))))))))))))))) 16 (λW=>vC W w.heap.size 0 (.bool fr.strict)/\vC W w.heap.size 1 (vI fr.vars)/\vC W a.b 3 (.slice (some ⟨kg,0,none⟩) (q+1) kc)/\vC W kg 0 (vP x0.b)) (HS.o _ _ (MFr.drew (.refl _ _))) ?_
 refine qa ?_;refine Zr ?_;apply Zjy (H:=Ld C w M z r1);·exact kDA HS bE HE.o HO.o
 .exact Ac2 HS bE HM HE.o HO.o
 intro W1 p1 M1 b1 k1 n1 t1 bL ah;obtain⟨bw,bT,jS,qO⟩:=en ah.1.2.1 ah.1.1 ah.2 ah.1.2.2;have e3:=(HS.o W1 M1 ah.1.2.1).2.2.1;have li:p1≠w.heap.size+1:=by have h1:=ah.2.late;have h2:=J.o.lt;omega
 have hn0:0<q+1:=Px
 have iR:(1:Int)<=((q+1:Nat):Int):=Px
 have Gw:2<=kc:=Px
 clear ah d3;go_wp2_with fail
 go_loopw [11,13,41] (λbv ev i wr=>∃(k:Nat) (Mk:MRep) (rk:MSt×Except Er (Bool×LVal)) (I:Bool) (kk nk:Int) (tk:kB),k<=q/\i=(vI k)/\bv=.bool I/\Hid (MAt C Mk wr rk.1)/\Hid (MFr M Mk z wr)/\Hid (Lo C Mk z wr p1 #[vI kk,vI nk,.string tk] 56)/\
  Hid (match rk.2 with
   | .ok v=>v=(I,⟨kk,nk,tk⟩)/\ev=.nilIface
   | .error x=>ax C Mk wr x ev)/\Hid (Fin s (d+2*(q-k)) DQ rk)/\Hid (R=vX D sc fr ((l.drop k).map (ATree.nt C.N)) rk)) (λ_ _ i _=>q-(intOf i).toNat)
 case atStart=>exact⟨0,M1,r1,b1,k1,n1,t1,Yh _,rfl,rfl,bT,bw,jS,qO,lh (by rw[Nat.sub_zero];exact bI.o),lh (by rw[List.drop_zero];exact HR.o)⟩
 case round=>
  obtain⟨k,Mk,rk,I,kk,nk,tk,MY,rfl,rfl,u,HFk,py,qw,d7,HRk⟩:=hrel;rcases Nat.lt_or_ge k q with hk|hk
  .obtain⟨x,hx⟩:∃x,l[k]? =some x:=⟨_,Y6 (by have :=HQ.o;omega)⟩
   have dX:=Yd hx;obtain⟨Dd,eJ,By⟩:=ds (qZ.o x dX) (HFk.o.tree (qZ.o x dX).1 (qZ.o x dX).2) (jy.o x dX);have hR:=HRk.o;have e9:l.drop k=x::l.drop (k+1):=by
    obtain⟨h1,h2⟩:=List.getElem?_eq_some_iff.1 hx;rw[Yt h1,h2]
   rw[e9,List.map_cons]at hR;have CL:wr.cell? ⟨kg,1+k,none⟩=some (vP x.b):=by rw[Nat.add_comm 1 k];exact(HFk.o.cell fm.o xY.o).trans (lp.o k x hx)
   have De:kW wr (wr.alloc (.cells #[.pointer none] 71)):=Z1 _ _;have Z:=lh De;have N':=lh (Lo.new (wE:=z) u.o HFk.o.size mD.o #[.pointer none] 71);have dk:=(eJ.o.1.bel De).c0;have dg:(wr.alloc (.cells #[.pointer none] 71)).cell? ⟨0,0,none⟩=some (pY C.eb):=((u.o.below De).old.cell qy.o.stopB).trans qy.o.stop;clear hx dX e9 De;obtain⟨sk,qk⟩:=rk;rcases qk with(_|v0)|v0
   .have U:=qw.o;simp only[ax]at U;rw[Zg1]at hR;subst hR;have he:=Znw C.eb (wr.alloc (.cells #[.pointer none] 71));have Bz:=lh U;rw[U];clear U;unfold pY at dg he ⊢;go_wp2_with fail
    obtain⟨b0,b1,b2,-,-,-⟩:=(py.o.fr (MFr.of_below Z.o)).six;obtain⟨q0,q1,q2,z0,z1,z2⟩:=(J.o.fr (HFk.o.trans (MFr.of_below Z.o))).six;refine Zx7 ?_;refine sU ?_;go_wp2;refine Yp (v:=.tuple #[.bool I,.agg #[vI kk,vI nk,.string tk],.iface 241 (.pointer (some C.eb))]) ?_ rfl ?_;·exact Ztp
    .exact .err J.o HBZ.o (u.o.below Z.o).drew ((HFk.o.trans (.of_below Z.o)).trans (.drew (.refl _ _))) (show ax C _ _ .stop (pY C.eb)from rfl)
   .obtain⟨p,U,gJ,tX⟩:=qw.o;have Bz:=lh (show ax C Mk wr (.thr v0) (rD p)from⟨p,rfl,gJ,tX⟩);have he:=Zsj C.eb p (wr.alloc (.cells #[.pointer none] 71));rw[U];clear U;unfold pY at dg;unfold pY rD at he;unfold rD;rcases By.o.1 with mV|BA
    .rw[mV]at dk;obtain⟨vk,vn,vt⟩:=v0;obtain⟨y,F,wy,my⟩:=By.o.2;have ex:y∈x.kids:=by rw[F];simp
     have KL:(x.nt C.N).kid 0=y.nt C.N:=wX (by rw[F];rfl);have am:R=vX D sc fr ((l.drop (k+1)).map (ATree.nt C.N)) (D (y.nt C.N) sk.next fr ((sk.opens sc (-1) (C.N x.b)).declare sk.next x.text 0 ⟨vk,vn,vt⟩)):=by
      rw[hR,<-KL];simp only[vX,Zb,mV,if_true,rH,Zcc]
     obtain⟨xg,xc,kb,dI,sq,Y,jn,fR⟩:=eJ.o.1.row eJ.o.2 (by rw[F];simp);rw[F]at kb dI Y;have uE:=Y 0 y rfl;simp only[List.length_cons,List.length_nil]at kb dI;have kb:vC wr x.b 3 (.slice (some ⟨xg,0,none⟩) 1 xc):=kb;obtain⟨z1,O⟩:=zX (wr.alloc (.cells #[.pointer none] 71))
     have aO:=Z.o;rw[<-O]at aO;have cV:p<wr.heap.size:=(Y1.1 gJ).1;have GR:wr.heap.size<z1.heap.size:=by rw[O];simp
     have BB:=N'.o;rw[<-O]at BB;obtain⟨z2,ar,wM⟩:∃z2,kW z1 z2/\kC 25 #[.iface 71 (vP p),.iface 73 (vP wr.heap.size)] z1 λev w'=>ev=.returned (.bool true)/\w'=z2.setCell ⟨wr.heap.size,0,none⟩ (vP p):=by
      refine⟨_,?_,Zf2 ⟨p,0,none⟩ ⟨wr.heap.size,0,none⟩ (.pointer none) z1 (vM.o.below ((u.o.below aO).old)) (BB.cell rfl) (BB.fz 0)⟩;have A:∀{W:kV} (o:Obj),kW z1 W->kW z1 (W.alloc o):=λo h=>h.alloc h.size o;exact A _ (A _ (A _ (Z1 _ _)))
     have mH:kW wr z2:=aO.trans (ar.mono aO.size);obtain⟨od,Df,wN⟩:=(BB.bel ar).put (u.o.below mH) (HFk.o.trans (.of_below mH)) Py Py 0 (vP p);have lI:(z2.setCell ⟨wr.heap.size,0,none⟩ (vP p)).heap[p]?=some (lL ⟨vk,vn,vt⟩):=(Y8 _ _ _ _ (by first|exact Nat.ne_of_lt cV|exact(Nat.ne_of_lt cV).symm)).trans ((mH.block p cV).trans gJ)
     have fw:MFr Mk Mk wr (z2.setCell ⟨wr.heap.size,0,none⟩ (vP p)):=⟨mH.os,mH.tape,mH.output,by simpa[World.setCell]using mH.size,λi hi _=>(Y8 _ _ _ _ (by first|exact Nat.ne_of_lt hi|exact(Nat.ne_of_lt hi).symm)).trans (mH.block i hi),λ_ _ h=>h⟩
     obtain⟨z3,yg⟩:=zX (z2.setCell ⟨wr.heap.size,0,none⟩ (vP p))
     rw[<-yg]at wM od Df wN lI fw;have qL:p<z3.heap.size:=(Y1.1 lI).1;obtain⟨dE,bK,mp⟩:=ds od Df (Df.tree Dd.o.1 Dd.o.2);have oG:=lh (Z5o qy.o od mp.o.1);obtain⟨i1,x1,c1,em,i2⟩:=d7.o;have i2:sk.steps<=20000:=i2;have gz:b<=sk.steps:=by have:=HB.o;have h2:s.steps<=sk.steps:=x1.steps;omega
     have i1:Inv sk (d+2*(q-(k+1))+1+1):=i1.less Px;have sY:=gZ.o.ext x1;have eE:=i1.opens (outer:=sc) (object:=-1) (owner:=C.N x.b) (by have:=sY.lo;omega) sY.hi Py Px;have eD:=Wm od i1 sc (-1) (C.N x.b);obtain⟨nx,ez⟩:=zX sk.next
     have sZ:=sY.opens eE.2;obtain⟨so,aU⟩:=zX (sk.opens sc (-1) (C.N x.b))
     rw[<-aU,<-ez]at eD sZ am;rw[<-aU]at eE;have dv:so.steps=sk.steps:=RN
     have oI:so.calls=sk.calls:=RN
     obtain⟨j1,j2⟩:=Uw (sc:=nx) (kind:=0) (name:=x.text) (v:=⟨vk,vn,vt⟩) eE.1 (LVal.ok.mono (v:=⟨vk,vn,vt⟩) em eE.2.lo) Py Py;obtain⟨sd,qt⟩:=zX (so.declare nx x.text 0 ⟨vk,vn,vt⟩)
     rw[<-qt]at j1 j2 am;have eu:sd.steps=sk.steps:=by rw[qt,<-dv];rfl
     have BC:sd.calls=sk.calls:=by rw[qt,<-oI];rfl
     obtain⟨r3,de⟩:=zX (D (y.nt C.N) nx fr sd)
     have an:=(HD.o (y.nt C.N) nx fr sd _ wy my j1 (sZ.ext j2) Px Px).1;rw[<-de]at an am;obtain⟨mv,bA,sH,jE,ng,KM⟩:=gq (Fin.pre (x1.trans (eE.2.trans j2)) (BC.trans c1) an) am wM eD eE.1 (λW M' (hM:MAt C M' W sd) (hT:TreeAt W B y/\y.free M')=>iP.o.from hM j1 (sZ.ext j2) Px Px wy my hT.1 hT.2 W (Y2 _ _));rw[<-de]at KM;obtain⟨oX,Pr,pF⟩:=ds qt yg (Yu (mp.o.1.kid ex) (mp.o.2.kid ex))
     have iB:=lh (show∀W M',MFr Mk M' z3 W->vC W x.b 1 (.string x.text)/\vC W wr.heap.size 0 (vP p)/\vC W p 0 (vI vk)/\vC W p 1 (vI vn)/\vC W p 2 (.string vt)from
      λW M' f=>have hw:=(f.block p qL tX).trans lI;⟨((bK.o.trans f).tree Dd.o.1 Dd.o.2).1.c1,(wN.fr f).cell rfl,by simp[vC,World.cell?,hw,lL,LVal.arr],by simp[vC,World.cell?,hw,lL,LVal.arr],by simp[vC,World.cell?,hw,lL,LVal.arr]⟩)
     have nu:=lh (show∀W M',MFr Mk M' z3 W->vC W w.heap.size 0 (.bool fr.strict)/\vC W w.heap.size 1 (vI fr.vars)/\vC W x.b 3 (.slice (some ⟨xg,0,none⟩) 1 xc)/\vC W xg 0 (vP y.b)from
      λW M' f=>have g:=fw.trans f;⟨(dB.o.fr (HFk.o.trans g)).cell rfl,(dB.o.fr (HFk.o.trans g)).cell rfl,(g.cell eJ.o.1.lt eJ.o.2.blk).trans kb,(g.cell jn fR).trans uE⟩)
     have oR:=lh (py.o.fr fw);clear F ex KL hR am Y uE kb jn fR aO cV GR BB wM ar mH od Df wN lI fw yg qL i1 x1 c1 em i2 gz sY eE eD ez sZ aU dv oI j1 j2 qt eu BC de an;simp only[ATree.ptr]at oG;go_wp2_with fail
     rw[<-O];refine sH.o.mono ?_;rintro e W2⟨rfl,rfl⟩;clear dk dg he O;go_wp2_with fail
     refine oG.o.mono ?_;rintro e W2⟨rfl,rfl⟩;go_wp2_with fail
     refine jE.o.mono ?_;rintro e W4⟨rfl,M4,fC,be⟩;have iZ:=lh fC;have ko:=lh be;have eV:=Vp fC.drew ng.o nx x.text 0 ⟨vk,vn,vt⟩;rw[<-oX.o]at eV;simp only[LVal.agg]at eV;have lZ:=lh eV;clear fC be eV;obtain⟨e1,e2,GS,e4,e5⟩:=iB.o _ _ ko.o;go_wp2_with fail
     refine ow [(true,0),(true,1),(true,2),(true,3),(true,4),(true,5),(true,6),(true,7),(true,8),(true,9),(true,10),(true,11)] [12] (λW=>vC W x.b 1 (.string x.text)/\vC W wr.heap.size 0 (vP p)/\vC W p 0 (vI vk)/\vC W p 1 (vI vn)/\vC W p 2 (.string vt)) (iB.o _ _ (ko.o.trans (.drew (.refl _ _)))) (λbq=>?_);refine oK ?_;refine Z0 ?_;go_wp2_with fail
     refine lZ.o.mono ?_;rintro e W5⟨rfl,M5,l9,eN⟩;have F5:=ko.o.trans ((MFr.drew (.refl M4 W4)).trans eN);clear e1 e2 GS e4 e5;have ro:=lh F5;have Ba:=lh (KM.o _ _ l9.drew ((F5.trans (.drew (.refl _ _))).tree pF.o.1 pF.o.2));clear l9 eN F5;obtain⟨e1,e2,GS,e4⟩:=nu.o _ _ ro.o;go_wp2_with fail
     refine vy (.take 0 (.take 1 (.take 2 (.take 3 (.take 4 (.take 5 (.take 6 (.take 7 (.take 8 (.go 9 (.take 10 (.take 11 (.take 12 (.take 13 (.go 14 (.go 15 (.go 16 .nil))))))))))))))))) 15 (λW=>vC W w.heap.size 0 (.bool fr.strict)/\vC W w.heap.size 1 (vI fr.vars)/\vC W x.b 3 (.slice (some ⟨xg,0,none⟩) 1 xc)/\vC W xg 0 (vP y.b)) (nu.o _ _ (ro.o.trans (.drew (.refl _ _)))) ?_;refine qa ?_;refine o4 (λK hK=>?_);refine Ba.o.mono ?_
     rintro e W6⟨M6,b6,k6,n6,t6,KN,rfl,la⟩;have F6:=(ro.o.trans (.drew (.refl _ _))).trans la.2.1;refine hK _ _ (nu.o _ _ F6) ?_;clear hK K e1 e2 GS e4;have Aj:=oR.o.fr F6;obtain⟨q0,q1,q2,z0,pA,rK⟩:=Aj.six;obtain⟨jP,GT,pM⟩:=ds (Aj.fill (x':=(vI k6)) (y':=(vI n6)) (z':=.string t6) la.1 (bK.o.trans F6) Aj.late) la.2.2 (nu.o _ _ F6);clear la F6 Aj;refine UU ?_;refine o4 (λK hK=>?_);refine hK _ _ pM.o ?_;clear hK K;try simp only[Act.put,zA,zB,zC]
     refine sU ?_;have BD:match r3.2 with
      | .ok v=>v=(b6,⟨k6,n6,t6⟩)/\KN=.nilIface
      | .error x=>ax C M6 (((W6.setCell ⟨p1,0,none⟩ (vI k6)).setCell ⟨p1,1,none⟩ (vI n6)).setCell ⟨p1,2,none⟩ (.string t6)) x KN:=by
      have h3:=GT.o;rcases hr:r3.2 with x|v;·rw[hr]at h3;exact jP.o.2.2.2 _ _ h3
      .rw[hr]at h3;exact h3
     have Oa:=lh BD;clear BD;go_wp2_with fail
     go_roundw
     case rel=>exact⟨k+1,M6,r3,b6,k6,n6,t6,by omega,by go_num,rfl,lh jP.o.1,lh jP.o.2.1,lh jP.o.2.2.1,Oa,mv,bA⟩
     case measure=>simp[intOf];omega
    ·rw [BA] at dk;rw [Zfl (by rw [Zb, BA]; decide)] at hR;obtain ⟨y, F, wy, my⟩ := By.o.2;obtain ⟨xg, xc, kb, dI, sq, Y, jn, fR⟩ := eJ.o.1.row eJ.o.2 (by rw [F]; simp);rw [F] at kb dI Y;have uE := Y 0 y rfl;simp only [List.length_cons, List.length_nil] at kb dI;have kb : vC wr x.b 3 (.slice (some ⟨xg, 0, none⟩) 1 xc) := kb;have ex : y ∈ x.kids := by rw [F]; simp
     rw[wX (i:=0) (x:=y) (by rw[F];rfl)]at hR;obtain⟨z1,O⟩:=zX (wr.alloc (.cells #[.pointer none] 71))
     have Cu:=lh O;have aO:=Z.o;rw[<-O]at aO;have bw:=lh (HFk.o.trans (MFr.of_below (M:=Mk) aO));have bT:=lh (u.o.below aO);have ed:=lh (Y4 HE.o bw.o.size);obtain⟨i1,x1,c1,em,i2⟩:=d7.o;refine Xi ?_;intro i2 gz r3 de bP an;rw[<-de]at bP an hR;refine AcN ?_;intro bC HR bW av;clear F Y uE kb ex O aO i1 x1 c1 em i2 gz de an hR jn fR;go_wp2_with fail
     rw[<-Cu.o];clear dk dg he;refine AbE ?_;apply Zjy (H:=Ld C w Mk z1 r3);·exact kDA bW bP ed.o HO.o
     .exact Zxa bW bP bT ed.o HO.o
     intro W3 p2 M3 b3 k3 n3 t3 fg bj;have F3:=(MFr.of_below (M:=Mk) av.o).trans bj.1.2.1;obtain⟨bK,dE,oR⟩:=ds F3 bj.1.1 bj.2;obtain⟨s3,q3⟩:=r3;cases q3 with
     |error x3=>
       exact Acp
     |ok v3=>
       obtain⟨rfl,rfl⟩:v3=(b3,⟨k3,n3,t3⟩)/\fg=.nilIface:=bj.1.2.2;clear bj F3;cases b3
       .have dQ:=lh (show R=vX D sc fr ((l.drop (k+1)).map (ATree.nt C.N)) (s3,.error (.thr v0))from HR.o);have ot:Fin s (d+2*(q-(k+1))) DQ (s3,.error (.thr v0)):=⟨bC.o.1,d7.o.2.1.trans bC.o.2.1,bC.o.2.2.1.trans d7.o.2.2.1,LVal.ok.mono (v:=v0) d7.o.2.2.2.1 bC.o.2.1.lo,bC.o.2.2.2.2⟩
        have mv:=lh ot;clear HR ot;go_wp2_with fail
        go_roundw
        case rel=>exact⟨k+1,M3,(s3,.error (.thr v0)),I,kk,nk,tk,by omega,by go_num,rfl,dE,lh (HFk.o.trans bK.o),lh (py.o.fr bK.o),lh (Bz.o.fr bK.o),mv,dQ⟩
        case measure=>simp[intOf];omega
       .exact AcW
   .have U:=qw.o;obtain⟨rfl,U⟩:=U;have he:=Zsd C.eb (wr.alloc (.cells #[.pointer none] 71));rw[U];clear U;unfold pY at dg he;rcases By.o.1 with mV|BA
    .rw[mV]at dk;have am:R=vX D sc fr ((l.drop (k+1)).map (ATree.nt C.N)) (sk,.ok (I,⟨kk,nk,tk⟩)):=by
      rw[hR];simp only[vX,Zb,mV,if_true]
     have bA:=lh am;have mv:=lh (d7.o.less (e:=d+2*(q-(k+1))) Px);clear hR am;go_wp2_with fail
     refine(Zp6 _ _).mono ?_;rintro e W2⟨rfl,rfl⟩;go_wp2_with fail
     go_roundw
     case rel=>exact⟨k+1,Mk,(sk,.ok (I,⟨kk,nk,tk⟩)),I,kk,nk,tk,by omega,by go_num,rfl,lh (u.o.below Z.o),lh (HFk.o.trans (.of_below Z.o)),lh (py.o.bel Z.o),lh ⟨rfl,rfl⟩,mv,bA⟩
     case measure=>simp[intOf];omega
    ·rw [BA] at dk;rw [Zm2 (by rw [Zb, BA]; decide)] at hR;obtain ⟨y, F, wy, my⟩ := By.o.2;obtain ⟨xg, xc, kb, dI, sq, Y, jn, fR⟩ := eJ.o.1.row eJ.o.2 (by rw [F]; simp);rw [F] at kb dI Y;have uE := Y 0 y rfl;simp only [List.length_cons, List.length_nil] at kb dI;have kb : vC wr x.b 3 (.slice (some ⟨xg, 0, none⟩) 1 xc) := kb;have ex : y ∈ x.kids := by rw [F]; simp
     rw[wX (i:=0) (x:=y) (by rw[F];rfl)]at hR;obtain⟨z1,O⟩:=zX (wr.alloc (.cells #[.pointer none] 71))
     have Cu:=lh O;have aO:=Z.o;rw[<-O]at aO;have bw:=lh (HFk.o.trans (MFr.of_below (M:=Mk) aO));have bT:=lh (u.o.below aO);have ed:=lh (Y4 HE.o bw.o.size);obtain⟨i1,x1,c1,em,i2⟩:=d7.o;refine Xi ?_;intro i2 gz r3 de bP an;rw[<-de]at bP an hR;refine AcN ?_;intro bC HR bW av;clear F Y uE kb ex O aO i1 x1 c1 em i2 gz de an hR jn fR;go_wp2_with fail
     rw[<-Cu.o];clear dk dg he;refine AbE ?_;apply Zjy (H:=Ld C w Mk z1 r3);·exact kDA bW bP ed.o HO.o
     .exact Zxa bW bP bT ed.o HO.o
     intro W3 p2 M3 b3 k3 n3 t3 fg bj;have F3:=(MFr.of_below (M:=Mk) av.o).trans bj.1.2.1;obtain⟨bK,dE,oR⟩:=ds F3 bj.1.1 bj.2;obtain⟨s3,q3⟩:=r3;cases q3 with
     |error x3=>
       exact Acp
     |ok v3=>
       obtain⟨rfl,rfl⟩:v3=(b3,⟨k3,n3,t3⟩)/\fg=.nilIface:=bj.1.2.2;clear bj F3;cases b3
       .have dQ:=lh (show R=vX D sc fr ((l.drop (k+1)).map (ATree.nt C.N)) (s3,.ok (I,⟨kk,nk,tk⟩))from HR.o);have ot:Fin s (d+2*(q-(k+1))) DQ (s3,.ok (I,⟨kk,nk,tk⟩)):=⟨bC.o.1,d7.o.2.1.trans bC.o.2.1,bC.o.2.2.1.trans d7.o.2.2.1,LVal.ok.mono (v:=⟨kk,nk,tk⟩) d7.o.2.2.2.1 bC.o.2.1.lo,bC.o.2.2.2.2⟩
        have mv:=lh ot;clear HR ot;go_wp2_with fail
        go_roundw
        case rel=>exact⟨k+1,M3,(s3,.ok (I,⟨kk,nk,tk⟩)),I,kk,nk,tk,by omega,by go_num,rfl,dE,lh (HFk.o.trans bK.o),lh (py.o.fr bK.o),lh ⟨rfl,rfl⟩,mv,dQ⟩
        case measure=>simp[intOf];omega
       .exact AcW
  .obtain rfl:k=q:=by omega
   have hR:R=rk:=by
    have:=HRk.o;rwa[List.drop_eq_nil_of_le RQ]at this
   go_wp2_with fail
   obtain⟨b0,b1,b2,-,-,-⟩:=py.o.six;obtain⟨q0,q1,q2,z0,z1,z2⟩:=(J.o.fr HFk.o).six;refine Zx7 ?_;refine sU ?_;obtain⟨sk,qk⟩:=rk;subst hR;cases qk with
   |error x1=>
     have he:ax C Mk wr x1 _:=qw.o;obtain⟨T1,P1,rfl,hP⟩:=he.ne;go_wp2;refine Yp (v:=.tuple #[.bool I,.agg #[vI kk,vI nk,.string tk],.iface T1 (.pointer P1)]) ?_ rfl ?_;·exact Ztp
     .exact .err J.o HBZ.o u.o.drew (HFk.o.trans (.drew (.refl _ _))) he
   |ok v1=>
     obtain⟨rfl,rfl⟩:=qw.o;go_wp2;refine Yp (v:=.tuple #[.bool I,.agg #[vI kk,vI nk,.string tk],.nilIface]) ?_ rfl ?_;·exact Ztp
     .exact .fine J.o HBZ.o u.o.drew (HFk.o.trans (.drew (.refl _ _)))
end
structure Tbs(C:RCtx):Prop where
 ok:C.Ok
 pw:K8 C.w0
 wd:Words C.w0
 lv:Gv C.w0 C.w0.heap.size
 et:Tb C.w0
def Aa4{t:Tree}(h:Wf .s [t])(hk:t.kind=12):2<=t.kids.length:=by
 cases h;case blk h=>exfalso;have:=(wk h).1;omega
 all_goals first
  |(exfalso;simp only[Tree.kind]at hk;omega)
  |simp[Tree.kids]
def Zsv{l:List NT}(h:Wf .vl (rq l)):∀y∈l,y.wf .v:=by
 induction l with
 |nil=>intro y hy;cases hy
 |cons z l ih=>
   intro y hy;obtain⟨k1,k2⟩:=Zi0 (t:=z.tree) (l:=rq l) h;exact XG
def Zus{l:List NT}(h:Wf .ol (rq l)):∀y∈l,∃o,y.kids=[o]/\o.wf .v:=by
 induction l with
 |nil=>intro y g;cases g
 |cons z l m=>
   intro y g;obtain⟨⟨-,-,x,p,u⟩,F⟩:=Zj0 (t:=z.tree) (l:=rq l) h;rcases List.mem_cons.1 g with rfl|g
   .obtain⟨o,G,rfl⟩:=Sm p;exact⟨o,G,u⟩
   .exact m F y g
section
variable {C:RCtx}{M M':MRep}{w w':kV}{s s':MSt}{B:Nat}{a:ATree}{V:VF}{D:DF}{b:Int}{sc:Int}{fr:Frm}{d:Nat}
def ak0(h:(a.nt C.N).kids=[]):a.kids=[]:=by
 rw[Zu,AC]at h;exact List.map_eq_nil_iff.1 h
def akc{p:NT}{l:List NT}(h:(a.nt C.N).kids=p::l):∃x r,a.kids=x::r/\x.nt C.N=p/\r.map (ATree.nt C.N)=l:=by
 rw[Zu,AC]at h;obtain⟨x,r,h1,g,m⟩:=List.map_eq_cons_iff.1 h;exact⟨x,r,h1,g,m⟩
def U4{p:NT}(h:(a.nt C.N).kids=[p]):∃x,a.kids=[x]/\x.nt C.N=p:=by
 obtain⟨x,r,h1,g,m⟩:=akc h;rw[List.map_eq_nil_iff.1 m]at h1;exact⟨x,h1,g⟩
def ak2{p q:NT}(h:(a.nt C.N).kids=[p,q]):∃x y,a.kids=[x,y]/\x.nt C.N=p/\y.nt C.N=q:=by
 obtain⟨x,r,h1,m,u⟩:=akc h;obtain⟨y,I,g,F,G⟩:=List.map_eq_cons_iff.1 u;rw[List.map_eq_nil_iff.1 G]at g;rw[g]at h1;exact⟨x,y,h1,m,F⟩
def ak3{p q r:NT}(h:(a.nt C.N).kids=[p,q,r]):∃x y z,a.kids=[x,y,z]/\x.nt C.N=p/\y.nt C.N=q/\z.nt C.N=r:=by
 obtain⟨x,l,h1,m,u⟩:=akc h;obtain⟨y,U,F,G,I⟩:=List.map_eq_cons_iff.1 u;obtain⟨z,X,g,J,O⟩:=List.map_eq_cons_iff.1 I;rw[List.map_eq_nil_iff.1 O]at g;rw[F,g]at h1;exact⟨x,y,z,h1,m,G,J⟩
def xI{x:ATree}(hx:x∈a.kids)(hm:(a.nt C.N).tree.many<=1500):(x.nt C.N).tree.many<=1500:=by
 have:=Em (n:=a.nt C.N) (x:=x.nt C.N) Qv;omega
def Zm7(hm:(a.nt C.N).tree.many<=1500):a.kids.length<=1500:=by
 have:=SP (n:=a.nt C.N);rw[Zu,AC,Ym]at this;omega
def Znb(hI:Inv s d)(g:FAt s sc fr)(hs:s.steps<20000):Inv {s with steps:=s.steps+1} 20000/\FAt {s with steps:=s.steps+1} sc fr:=by
 have p:=hI.steps;obtain⟨m,i2⟩:=Inv.turn (k:=s.steps+1) (c:=s.calls) (v:=s.last) (d':=20000) hI Px Px hI.calls hI.last Px;exact⟨m,g.ext i2⟩
def Zg0(T:Tbs C)(m:zm C V b)(u:VH V b)(h:MAt C M w s)(hI:Inv s (d+1))(y:FAt s sc fr)(hb:b<=s.steps)(hs:s.steps<=20000)(ha:TreeAt w B a)(hf:a.free M)(wa:(a.nt C.N).wf .v)(F:(a.nt C.N).tree.many<=1500) :
 kC 132 #[vP C.mb,a.ptr,vI sc,.agg #[.bool fr.strict,vI fr.vars]] w λe w'=>cK C M w (K' V (a.nt C.N) sc fr s) e w':=by
 by_cases I:a.kind=23;·exact Zfd h hI ha hf I
 by_cases g:a.kind=36
 .obtain⟨-,x',J,O⟩:=Tq wa (by rw[Z6,Zb];exact g);obtain⟨p,U,rfl⟩:=Sm J;obtain⟨o,ho,rfl⟩:=U4 U;exact Zh2 m u h hI y hb hs ha hf g ho O (xI Qp F)
 .exact Zdf m u h hI y hb hs ha hf I g wa F
def Zq5(T:Tbs C)(g:zm C V b)(m:VH V b)(h:MAt C M w s)(hI:Inv s (d+2))(u:FAt s sc fr)(hb:b<=s.steps)(hs:s.steps<=20000)(ha:TreeAt w B a)(hf:a.free M)(hk:a.kind=24)(wa:(a.nt C.N).wf .v)(F:(a.nt C.N).tree.many<=1500) :
 kC 119 #[vP C.mb,a.ptr,vI sc,.agg #[.bool fr.strict,vI fr.vars]] w λe w'=>cK C M w (qx V (a.nt C.N) sc fr s) e w':=by
 obtain⟨x',y',U,X,Y,I⟩:=AaH wa (by rw[Z6,Zb];exact hk);obtain⟨p,q,Z,rfl,rfl⟩:=UN U;obtain⟨x,y,qs,rfl,rfl⟩:=ak2 Z;have J:=xI (C:=C) (x:=y) RX F;have mx:=xI (C:=C) (x:=x) RX F;rw[Z6,Zb]at X;by_cases O:x.kind=23;·exact Zln T.ok T.et g m h hI u hb hs ha hf qs O I J
 .obtain⟨-,o',k2,k3⟩:=Tq Y (by rw[Z6,Zb];omega);obtain⟨o1,g2,rfl⟩:=Sm k2;obtain⟨o,ho,rfl⟩:=U4 g2;exact Zr0 g m h hI u hb hs ha hf qs ho O k3 I (xI Qp mx) J
def Zk2(T:Tbs C)(F:zm C V b)(I:VH V b)(cT:G8 C D b)(hD:DH D b)(h:MAt C M w s)(hI:Inv s (d+17000))(J:FAt s sc fr)(hb:b<=s.steps)(hs:s.steps<=20000)(ha:TreeAt w B a)(hf:a.free M)
 (hk:a.kind=32\/a.kind=33\/a.kind=34\/a.kind=35\/a.kind=36\/a.kind=38)(wa:(a.nt C.N).wf .v)(m:(a.nt C.N).tree.many<=1500) :
 kC 121 #[vP C.mb,a.ptr,vI sc,.agg #[.bool fr.strict,vI fr.vars]] w λe w'=>cK C M w (Cj V D (a.nt C.N) sc fr s) e w':=by
 by_cases h1:a.kind=32\/a.kind=33\/a.kind=34
 .obtain⟨x',g,u⟩:=wv1 wa Rz Rz;obtain⟨p,y,rfl⟩:=Sm g;obtain⟨o,ho,rfl⟩:=U4 y;have U:=xI (C:=C) (x:=o) Qp m;rcases h1 with h1|h1|h1;·exact Zx9 F I h (d:=d) (hI.less Px) J hb hs ha hf h1 ho u U
  .exact Zns F I h (d:=d) (hI.less Px) J hb hs ha hf h1 ho u U
  .have X:o∈a.kids:=by rw[ho];simp
   exact Zob h ha hf h1 ho λW O=>Zg0 T F I (h.below O) (d:=d) (hI.less Px) J hb hs ((ha.bel O).kid X) (hf.kid X) u U
 by_cases h5:a.kind=35
 .obtain⟨x',l',g,u,k3⟩:=AaJ wa (by rw[Z6,Zb];exact h5);rw[K9]at g;obtain⟨p,l1,y,rfl,rfl⟩:=UE g;obtain⟨x0,l,co,rfl,rfl⟩:=akc y;have fj:∀k∈l,(k.nt C.N).wf .v/\(k.nt C.N).tree.many<=1500:=λk hk=>⟨Zsv k3 _ (List.mem_map.2 ⟨k,hk,rfl⟩),xI (by rw[co];simp[hk]) m⟩;have hl:l.length<=1500:=by have :=Zm7 (C:=C) (a:=a) m;rw[co,List.length_cons]at this;omega
  exact Zsu h ha hf h5 λW O=>Zog T.pw T.wd T.lv T.ok F I cT hD (h.below O) hI J hb hs (ha.bel O) hf co u (xI Qe m) hl fj
 by_cases Y:a.kind=36
 .obtain⟨-,x',g,u⟩:=Tq wa (by rw[Z6,Zb];exact Y);obtain⟨p,y,rfl⟩:=Sm g;obtain⟨o,ho,rfl⟩:=U4 y;exact Zlg F I h (d:=d) (hI.less Px) J hb hs ha hf Y ho u (xI Qp m)
 .have Z:a.kind=38:=by omega
  have g:=Abc wa (by rw[Z6,Zb];exact Z);rw[K9]at g;have hn:=Zm7 (C:=C) (a:=a) m;refine Zoa F I h (d:=d) (hI.less Px) J hb hs ha hf Z hn λx hx=>?_;obtain⟨o',y,g2⟩:=Zus g (x.nt C.N) Qv;obtain⟨o,ho,rfl⟩:=U4 y;exact⟨o,ho,g2,xI Qp (xI hx m)⟩
def Zl3(T:Tbs C)(I:zm C V b)(J:VH V b)(cT:G8 C D b)(hD:DH D b):zm C (λn sc fr=>tm (v7 V D n sc fr)) (b-1):=by
 intro w M s a B sc fr d h hI U hb hs hw hm ha hf;have bD:=Zlm hw;rw[Z6,Zb]at bD;by_cases gL:s.steps=20000;·exact Zw1 T.ok h hI ha hf gL
 have g:s.steps<20000:=Px
 have m:Inv s 0:=hI.less (Yh _);obtain⟨X,O⟩:=Znb hI U g;have Y:b<=s.steps+1:=Px
 have Z:s.steps+1<=20000:=Px
 by_cases k1:a.kind<=22;·exact Zux h m ha hf g Px
 by_cases k2:a.kind=23;·exact Zu8 (d:=0) T.ok h m Py ha hf g k2
 by_cases k3:a.kind=24;·exact Acz (d:=0) h m Py ha hf g k3 λW M' u ht F=>Zq5 T I J u (d:=0) (X.less Py) O Y Z ht F k3 hw hm
 by_cases k4:a.kind<=31
 .obtain⟨x',y',g1,wx,wy⟩:=wv2 hw Rz Rz;obtain⟨p,q,g2,rfl,rfl⟩:=UN g1;obtain⟨x,y,qs,rfl,rfl⟩:=ak2 g2;have mx:=xI (C:=C) (x:=x) RX hm;have my:=xI (C:=C) (x:=y) RX hm;by_cases k5:a.kind=25\/a.kind=26;·exact AaD (d:=0) I J h m Py U Px g ha hf qs wx wy mx my k5
  .exact Zzd (d:=0) T.pw I J h m Py U Px g ha hf qs wx wy mx my Px
 by_cases k6:a.kind=37
 .refine Zxq (d:=0) h m Py ha hf g k6 λW M' u ht F=>?_;exact Z32 (d:=0) T.ok u (X.less Py) ht F ⟨.inr ⟨by rw[Zb];exact k6,hw⟩,hm⟩ sc fr O.lo O.hi
 .exact Zrf (d:=0) h m Py ha hf g Px λW M' u ht F=>Zk2 T I J cT hD u (d:=0) (X.less Py) O Y Z ht F Px hw hm
def Zjx(T:Tbs C)(X:zm C V b)(Y:VH V b)(J:G8 C D b)(hD:DH D b){f:Nat}(nh:20001-(f:Int)=b):G8 C (yk V D f) (b-1):=by
 intro w M s a B sc fr d h hI O hb hs hw hm ha hf;have bD:=Zmd hw;rw[Z6,Zb]at bD;by_cases gL:s.steps=20000;·exact Zud T.ok h hI ha hf gL
 have g:s.steps<20000:=Px
 have m:Inv s 0:=hI.less (Yh _);obtain⟨fK,kv⟩:=Znb hI O g;have ah:b<=s.steps+1:=Px
 have aF:s.steps+1<=20000:=Px
 by_cases k2:a.kind=2
 .obtain⟨-,h0|⟨x',U,F⟩⟩:=ws2 hw (by rw[Z6,Zb];exact .inl k2);·exact Zga h m g ha hf (.inl ⟨ak0 (Zfu h0),.inl k2⟩)
  .obtain⟨p,I,rfl⟩:=Sm U;obtain⟨x,hx,rfl⟩:=U4 I;exact Zxp (d:=0) T.et X Y h m Py O Px g ha hf hx F (xI P9 hm) k2
 by_cases k3:a.kind=3\/a.kind=4
 .obtain⟨-,h0|⟨x',U,F⟩⟩:=ws2 hw (by rw[Z6,Zb];exact .inr k3);·exact Zyy h m g ha hf (ak0 (Zfu h0)) k3
  .obtain⟨p,I,rfl⟩:=Sm U;obtain⟨x,hx,rfl⟩:=U4 I;exact Z6y (d:=0) X J Y h m Py O Px g ha hf hx F (xI P9 hm) PE (λy hy=>by cases hy) (k3.imp id .inl)
 by_cases k5:a.kind=5;·exact Zga h m g ha hf (.inr k5)
 by_cases k6:a.kind=6
 .refine Zp9 h m g ha hf k6 λW M' hM ht oz=>?_;have hst:(a.nt C.N).stm:=by
   have:=(wk (Zi3 hw (by rw[Z6,Zb];exact k6))).2.1;rw[K9]at this;exact this
  exact Zl9 T.ok J hD hM (d:=0) (fK.less Py) kv ah aF ht oz hst hm (by rw[VZ,Vi]at hm;exact hm)
 by_cases k7:a.kind=7
 .obtain⟨x',y',F,wy,h2|⟨z',h3,wz⟩⟩:=ws7 hw (by rw[Z6,Zb];exact k7)
  .obtain⟨p,q,I,rfl,rfl⟩:=UN h2;obtain⟨x,y,hx,rfl,rfl⟩:=ak2 I;exact Z6y (d:=0) X J Y h m Py O Px g ha hf hx F (xI P9 hm) PE (λu Z=>by
    rw[List.mem_singleton]at Z;subst Z;exact⟨wy,xI P9 hm⟩) (.inr (.inr (.inl ⟨k7,by simp⟩)))
  .obtain⟨p,q,r,I,rfl,rfl,rfl⟩:=Zsc h3;obtain⟨x,y,z,hx,rfl,rfl,rfl⟩:=ak3 I;exact Z6y (d:=0) X J Y h m Py O Px g ha hf hx F (xI P9 hm) PE (λu Z=>by
    simp only[List.mem_cons,List.not_mem_nil,or_false]at Z;rcases Z with rfl|rfl;·exact⟨wy,xI P9 hm⟩
    .exact⟨wz,xI P9 hm⟩) (.inr (.inr (.inl ⟨k7,by simp⟩)))
 by_cases k8:a.kind=8\/a.kind=9
 .obtain⟨x',y',h2,F,wy⟩:=ws8 hw (by rw[Z6,Zb];exact k8);obtain⟨p,q,I,rfl,rfl⟩:=UN h2;obtain⟨x,y,hx,rfl,rfl⟩:=ak2 I;have mx:=xI (C:=C) (x:=x) P9 hm;have my:=xI (C:=C) (x:=y) P9 hm;rcases k8 with k8|k9;·exact Zpb (d:=0) X J Y hD h m Py O Px g ha hf hx F mx wy my Px k8
  .exact Z6y (d:=0) X J Y h m Py O Px g ha hf hx F mx PE (λu Z=>by
    rw[List.mem_singleton]at Z;subst Z;exact⟨wy,my⟩) (.inr (.inr (.inr (.inl ⟨k9,rfl⟩))))
 by_cases jB:a.kind=10\/a.kind=11
 .rcases Abq hw (by rw[Z6,Zb];exact jB)with⟨h0,hk⟩|⟨x',U,F⟩
  .rw[Z6,Zb]at hk;exact Zvv h m g ha hf (ak0 (Zfu h0)) hk
  .obtain⟨p,I,rfl⟩:=Sm U;obtain⟨x,hx,rfl⟩:=U4 I;exact Z6y (d:=0) X J Y h m Py O Px g ha hf hx F (xI P9 hm) PE (λy hy=>by cases hy) (.inr (.inr (.inr (.inr (jB.imp id .inl)))))
 by_cases GU:a.kind=12
 .refine Zwt h m g ha hf GU λW M' hM ht oz=>?_;obtain⟨x',l',h1,h2,h3,h4⟩:=Acx hw (by rw[Z6,Zb];exact GU);have h5:=Aa4 hw (by rw[Z6,Zb];exact GU);rw[h1,List.length_cons]at h5;rw[K9]at h1;obtain⟨p,l1,U,rfl,rfl⟩:=UE h1;obtain⟨x0,l,co,rfl,rfl⟩:=akc U;rw[Z3i,Ym,Ym]at h3 h5;refine Zqj T.ok T.et J hD hM (d:=0) (fK.less Py) kv ah aF ht oz co (Wf.blk h2) (xI Qe hm) h3 Px λk hk=>?_
  obtain⟨bD,c',k1,k2⟩:=h4 (k.nt C.N).tree (by rw[Z3i];exact List.mem_map.2 ⟨k.nt C.N,List.mem_map.2 ⟨k,hk,rfl⟩,rfl⟩);obtain⟨p2,k3,rfl⟩:=Sm k1;obtain⟨c,hc,rfl⟩:=U4 k3;rw[Z6,Zb]at bD;exact⟨bD.imp (λh=>h.1) id,c,hc,Wf.blk k2,xI (by rw[hc];simp) (xI (by rw[co];simp[hk]) hm)⟩
 by_cases Cm:a.kind=15
 .obtain⟨x',U,F⟩:=AaQ hw (by rw[Z6,Zb];exact Cm);obtain⟨p,I,rfl⟩:=Sm U;obtain⟨x,hx,rfl⟩:=U4 I;exact Z6y (d:=0) X J Y h m Py O Px g ha hf hx F (xI P9 hm) PE (λy hy=>by cases hy) (.inr (.inr (.inr (.inr (.inr (.inr Cm))))))
 .have KO:a.kind=16:=by omega
  exact Zga h m g ha hf (.inl ⟨ak0 (Zfu (AaO hw (by rw[Z6,Zb];exact KO))),.inr KO⟩)
theorem Zih(T:Tbs C):∀f:Nat,zm C (wc f).1 (20001-f)/\G8 C (wc f).2 (20001-f)
 |0=>⟨λw M s a B sc fr d _ _ _ hb hs=>by simp at hb;omega,λw M s a B sc fr d _ _ _ hb hs=>by simp at hb;omega⟩
 |f+1=>by
   obtain⟨g,m⟩:=Zih T f;obtain⟨p,u⟩:=Zgw f;have e:(20001:Int)-((f+1:Nat):Int)=20001-(f:Int)-1:=Px
   rw[e];exact⟨Zl3 T g p m u,Zjx T g p m u rfl⟩
end
section
variable {C:RCtx}{M M1:MRep}{w z W:kV}{s:MSt}{B:Nat}{a:ATree}{d fb:Nat}{st:Bool}{A:Act}{K:Act->kV->Prop}{Q:Exit->Act->kV->Prop}
def ZG{w:kV}{b i j k:Nat}{v x y:Value}(h1:i≠k)(g:j≠k)(h:w.cell? ⟨b,k,none⟩=some v):((w.setCell ⟨b,i,none⟩ x).setCell ⟨b,j,none⟩ y).cell? ⟨b,k,none⟩=some v:=
 (Yr _ _ _ _ (λe=>g (Addr.mk.inj e).2.1)).trans ((Yr _ _ _ _ (λe=>h1 (Addr.mk.inj e).2.1)).trans h)
theorem Zj1:fD [1,1,1,1,1,1,1,1,1,1,1,1,1]=Code.seq (fD [1,1,1,1,1,1,1,1,1,1,1,1,1,0]) (Code.seq (fD [1,1,1,1,1,1,1,1,1,1,1,1,1,1,0]) (Code.seq (fD [1,1,1,1,1,1,1,1,1,1,1,1,1,1,1,0]) (fD [1,1,1,1,1,1,1,1,1,1,1,1,1,1,1,1]))):=by kernel_rfl
def Zz8(T:Tbs C)(hM:MAt C M1 W s)(hF:MFr M M1 z W)(hO:C.w0.heap.size<=z.heap.size)(ha:TreeAt W B a)(hf:a.free M1)(hst:(a.nt C.N).stm)(hm:(a.nt C.N).tree.many<=1500)(hI:Inv s 0)(hA:FAt s 1 ⟨st,0⟩)(gL:s.steps=0)(mX:s.top=1)(lf:Lo C M1 z W fb #[.bool st,vI 0] 63)
 (cu:kW w C.w0)(xU:w.heap.size<C.w0.heap.size)(mS:C.w0.heap[w.heap.size]?=some (.cells #[.slice none 0 0,vI 0,.string ⟨#[]⟩,vI 0,.slice none 0 0] 30 (0,0)))(fr:FrA 201 (O' C w a [(6,vP fb)]) [] A)
 (hR:∀y a' w',(results Tryz.f7 a'.tmps).run Tryz.prog w'=.ok y w'->a'.defers=[]->Y' w (UH (oB (wc U6).2 1 ⟨st,0⟩ (a.nt C.N).kids s)) y w'->Q .ret a' w')(hQ:∀c a d v w,Q (.panic c) (Act.put a d v) w->Q (.panic c) a w) :
 (fD [1,1,1,1,1,1,1,1,1,1,1,1,1]).wp Tryz.prog Q A W:=by
 obtain⟨r,hr⟩:=zX (oB (wc U6).2 1 ⟨st,0⟩ (a.nt C.N).kids s)
 rw[<-hr]at hR;have ao:=X8 hst hm;have cT:=(Zih T U6).2;have hD:=(Zgw U6).2;have hb:(20001:Int)-(U6:Int)<=s.steps:=by rw[gL];show(20001:Int)-((20001:Nat):Int)<=0;decide
 have hs:s.steps<=20000:=Px
 have an:=Z5f hD (a.nt C.N).kids s ao hI hA hb hs;rw[<-hr]at an;have hn:=Zm7 (C:=C) (a:=a) hm;refine Zyf ?_;intro bD;rw[Zu,AC]at hr;obtain⟨pb,cb,cg,bU,ej,cU⟩:=ll.slice ha.rowOf;obtain⟨qb,mt⟩:=zX a.kids.length
 rw[<-mt]at cg
 have HC:=lh (show∀m,kW W m->kC 24 #[vP C.mb,.slice pb qb cb,vI 1,.agg #[.bool st,vI 0]] m λe w'=>∃M' b k n t ev,e=.returned (.tuple #[.bool b,ag k n t,ev])/\mA C M1 m r w' M' b k n t ev from
  λm hB=>by
   have h:=Calls.dres (Z5c (fr:=⟨st,0⟩) cT hD (hM.below hB) hI hA hb hs (ha.bel hB) hf hn bD);rw[cg,<-hr]at h;exact h)
 have O:=lh (show∀m M' s',MAt C M' m s'->(s'=s\/s'=r.1)->MFr M1 M' W m->vC m a.b 3 (.slice pb qb cb)/\vC m C.mb 12 (vI 1)/\vC m fb 0 (.bool st)/\vC m fb 1 (vI 0)from
  λm M' s' rX dK f=>⟨by have:=(f.tree ha hf).1.c3;rwa[cg]at this,by
   have px:=rX.gl.2.2;rcases dK with rfl|rfl;·rwa[mX]at px
   .rwa[an.2.1.top,mX]at px,(lf.fr f).cell rfl,(lf.fr f).cell rfl⟩)
 obtain⟨bI,HM,HF,HE,HO,HT,jF,GV,wO,fd⟩:=lB an hM hF hF.size hO T cu xU mS hR;refine Zws ?_;intro fA;unfold O' at fr;obtain⟨xt,rfl,e0,e2,e5,e6,-⟩:=Zcn fr;rw[e0,e2,e5,e6];clear e0 e2 e5 e6 fr;clear T hM hF hO ha hf hst hm hI hA gL mX lf cu xU mS hR hQ hr ao cT hD hb hs an hn bD cg bU ej cU mt;rw[Zj1];refine dq ?_;intro K HK
 refine Z2b (.take 0 (.take 1 (.take 2 (.take 3 (.take 4 (.take 5 (.take 6 (.take 7 (.take 8 (.take 9 (.two 10 (.take 11 (.take 12 (.take 13 (.take 14 (.go 15 (.go 16 (.go 17 (.go 18 (.nil))))))))) 15 (.go 10 (.take 11 (.take 12 (.take 13 (.take 14 (.go 16 (.go 17 (.go 18 (.nil)))))))))))))))))))) 17 (λW=>vC W a.b 3 (.slice pb qb cb)/\vC W C.mb 12 (vI 1)/\vC W fb 0 (.bool st)/\vC W fb 1 (vI 0)) Pz Pz (λc a d v w h=>fA.o _ c a d v w h) (O.o _ _ _ HM.o.drew (.inl rfl) (MFr.drew (.refl _ _))) ?_
 iterate 10
  first
   |(refine Z57 ?_ PM PM (λw'=>?_) ?_;rotate_left;(go_simp;first|done|with_reducible rfl);simp only[Act.put,zA,zB,zC])
   |(refine Z7v ?_ PM Pz PM (λw' kI=>?_) ?_;rotate_left;(obtain⟨s0,s1,s2,s3⟩:=kI;go_simp;first|done|with_reducible rfl);simp only[Act.put,zA,zB,zC])
 refine Zr ?_;apply Zjy (H:=Ld C z M1 W r)
 .intro ca;refine o4 (λK hK=>?_);refine(HC.o _ (Zd _)).mono ?_;rintro e w1⟨M1,b,k,n,t,ev,rfl,hr⟩;have bz:=hr.pre (Zd _);refine hK _ _ (O.o _ _ _ bz.1 (.inr rfl) bz.2.1) ?_;have fY:=lh bz;clear bz hr hK K;refine Zxr ?_;intro K hK;refine hK _ _ (O.o _ _ _ (fY.o.1.below (Z1 _ _)) (.inr rfl) (fY.o.2.1.trans (.of_below (Z1 _ _)))) ?_;clear hK K;refine UV ?_;intro K hK;refine hK _ _ (O.o _ _ _ (fY.o.1.below (Z1 _ _)) (.inr rfl) (fY.o.2.1.trans (.of_below (Z1 _ _)))) ?_;clear hK K;try simp only[Act.put,zA,zB,zC]
  refine sU ?_;have u:=fY.o.boxA (wE:=z) HE.o HO.o;unfold vO at u;generalize w1.alloc (.cells #[vI k,vI n,.string t] 56)=W2 at u ⊢;generalize w1.heap.size=p at u ⊢;exact ca.o W2 p M1 b k n t ev u
 .intro ca;refine o4 (λK hK=>?_);refine hK _ _ (O.o _ _ _ (HM.o.below (Z1 _ _)).drew (.inl rfl) (.drew (.of_below (Z1 _ _)))) ?_;clear hK K;refine UV ?_;intro K hK;refine(HC.o _ (Z1 _ _).drew).mono ?_;rintro e w1⟨M1,b,k,n,t,ev,rfl,hr⟩;refine hK _ _ (O.o _ _ _ hr.1 (.inr rfl) ((MFr.of_below (Z1 _ _).drew).trans hr.2.1)) ?_;obtain⟨q0,q1,q2,z0,z1,z2⟩:=(mA.lo (wE:=z) hr HM.o HE.o HO.o).six;have u:=mA.boxB (wE:=z) hr HM.o HE.o HO.o;have cE:=lh (O.o _ _ _ hr.1 (.inr rfl) ((MFr.of_below (Z1 _ _).drew).trans hr.2.1));have fy:=lh u
  clear hr hK K u;refine Zxr ?_;intro K hK;refine hK _ _ cE.o ?_;clear hK K;try simp only[Act.put,zA,zB,zC]
  refine sU ?_;clear q0 q1 q2 z0 z1 z2;have u:=fy.o;clear fy;generalize((w1.setCell ⟨W.heap.size,0,none⟩ (vI k)).setCell ⟨W.heap.size,1,none⟩ (vI n)).setCell ⟨W.heap.size,2,none⟩ (.string t)=W2 at u ⊢;generalize W.heap.size=p at u ⊢;exact ca.o W2 p M1 b k n t ev u
 intro W1 p1 M2 b1 k1 n1 t1 bL U;refine HK.o _ _ ?_;clear HK K;refine dq ?_;intro K HK;go_wp2_with fail
 refine HK.o _ _ ?_;clear HK K;have bT:=lh U.1.1;have bw:=lh U.1.2.1;have ar:=Z1 W1 (.cells #[.pointer none] 71);have cX:=Lo.new (wE:=z) U.1.1 (Y4 HE.o U.1.2.1.size) HO.o #[.pointer none] 71;obtain⟨p,ux⟩:=zX W1.heap.size
 rw[<-ux]at cX ⊢;obtain⟨W2,gF⟩:=zX (W1.alloc (.cells #[.pointer none] 71))
 rw[<-gF]at ar cX ⊢;have bR:=lh (U.1.1.below ar);have Z:=lh cX;have dg:vC W2 0 0 (pY C.eb):=((U.1.1.below ar).old.cell HT.o.ok.stopB).trans HT.o.ok.stop;have GY:=U.1.2.2;obtain⟨s9,q9⟩:=r;have aN:=lh ar;clear U gF ar cX HC O HM HE;cases q9 with
 |ok v9=>
   obtain⟨-,rfl⟩:=GY;refine Zzs ?_;intro c3 c4 c5 c2 c6 y3 C2 C4 C5 C6 C3;have vA:=Zsd C.eb W2;unfold pY at dg vA;clear c2 c4 c5 c6 ux;refine dq ?_;intro K HK;go_wp2_with fail
   refine(Zp6 _ _).mono ?_;rintro e W3⟨rfl,xW⟩;rw[xW];clear xW W3;go_wp2_with fail
   refine HK.o _ _ ?_;clear HK K
   refine Zmp jF.o GV.o bR.o (code:=1) (val:=⟨#[]⟩) (λk hk=>Y8 _ _ _ _ hk) Qb ⟨rfl,rfl,rfl⟩ ((Yr _ _ _ _ PJ).trans C2.o) (World.cell?_setCell_same _ _ _ C3.o) ((Yr _ _ _ _ PJ).trans C4.o) ((Yr _ _ _ _ PJ).trans C5.o) ((Yr _ _ _ _ PJ).trans C6.o) wO.o ⟨rfl,⟨rfl,rfl,rfl,trivial⟩,rfl⟩ (λy a' w' I J F=>fd.o y a' w' I J F)
 |error x9=>
   cases x9 with
   |stop=>
     have gW:bL=pY C.eb:=GY;refine Zzs ?_;intro c3 c4 c5 c2 c6 y3 C2 C4 C5 C6 C3;have vA:=Znw C.eb W2;subst gW;unfold pY at dg vA ⊢;clear c2 c4 c5 c6 ux;refine dq ?_;intro K HK;go_wp2_with fail
     refine HK.o _ _ ?_;clear HK K
     refine Zmp jF.o GV.o bR.o (code:=3) (val:=⟨#[]⟩) (λk hk=>Y8 _ _ _ _ hk) Qb ⟨rfl,rfl,rfl⟩ ((Yr _ _ _ _ PJ).trans C2.o) (World.cell?_setCell_same _ _ _ C3.o) ((Yr _ _ _ _ PJ).trans C4.o) ((Yr _ _ _ _ PJ).trans C5.o) ((Yr _ _ _ _ PJ).trans C6.o) wO.o ⟨rfl,⟨rfl,rfl,rfl,trivial⟩,rfl⟩ (λy a' w' I J F=>fd.o y a' w' I J F)
   |thr v0=>
     obtain⟨g,gW,gJ,tX⟩:=GY;have cV:g<W1.heap.size:=(Y1.1 gJ).1;have vq:g≠C.mb:=λe=>tX (e▸bT.o.mbHas);have KP:g≠p:=by rw[ux];omega
     have lJ:p<W2.heap.size:=(Y1.1 Z.o.blk).1;have vA:=Zsj C.eb g W2;subst gW;unfold pY at dg;unfold pY rD at vA;unfold rD;obtain⟨i1,-,-,em,-⟩:=bI.o;obtain⟨vk,vn,vt⟩:=v0;obtain⟨z2,aP,wM⟩:∃z2,kW W2 z2/\kC 25 #[.iface 71 (vP g),.iface 73 (vP p)] W2 λev w'=>ev=.returned (.bool true)/\w'=z2.setCell ⟨p,0,none⟩ (vP g):=by
      refine⟨_,?_,Zf2 ⟨g,0,none⟩ ⟨p,0,none⟩ (.pointer none) W2 (HT.o.et.below bR.o.old) (Z.o.cell rfl) (Z.o.fz 0)⟩;have A:∀{W:kV} (o:Obj),kW W2 W->kW W2 (W.alloc o):=λo h=>h.alloc h.size o;exact A _ (A _ (A _ (Z1 _ _)))
     obtain⟨od,-,wN⟩:=(Z.o.bel aP).put (bR.o.below aP) ((HF.o.trans bw.o).trans (.of_below (aN.o.trans (aP.mono aN.o.size)))) Py Py 0 (vP g);have lI:(z2.setCell ⟨p,0,none⟩ (vP g)).heap[g]?=some (lL ⟨vk,vn,vt⟩):=(Y8 _ _ _ _ KP).trans (((aN.o.trans (aP.mono aN.o.size)).block g cV).trans gJ);obtain⟨z3,yg⟩:=zX (z2.setCell ⟨p,0,none⟩ (vP g))
     rw[<-yg]at wM od wN lI;have qL:g<z3.heap.size:=(Y1.1 lI).1;have nw:=λ(m:kV) (hW:kW z3 m)=>Zq1 HT.o.pw (od.below hW) i1 ⟨vk,vn,vt⟩ em;obtain⟨tx,bc⟩:=zX (s9.H.shown ⟨vk,vn,vt⟩)
     have fd:=lh (show∀y a' w',(results Tryz.f7 a'.tmps).run Tryz.prog w'=.ok y w'->a'.defers=[]->Y' w ⟨s9.log,2,tx,s9.steps,s9.seen⟩ y w'->Q .ret a' w' from λy a' w' I J F=>fd.o y a' w' I J (by rw[bc]at F;exact F));rw[<-bc]at nw;simp only[LVal.agg]at nw;obtain⟨GJ,dE,sH⟩:=ds nw od wM
     have HY:=lh (show∀m,kW z3 m->vC m p 0 (vP g)/\vC m g 0 (vI vk)/\vC m g 1 (vI vn)/\vC m g 2 (.string vt)from
      λm f=>have hw:=(f.block g qL).trans lI;⟨(wN.bel f).cell rfl,by simp[vC,World.cell?,hw,lL,LVal.arr],by simp[vC,World.cell?,hw,lL,LVal.arr],by simp[vC,World.cell?,hw,lL,LVal.arr]⟩)
     have tu:=lh (Yu vq (show p≠C.mb from λe=>Z.o.free (e▸bR.o.mbHas)));clear cV vq KP lJ i1 em aP wM od wN lI yg qL nw bc gJ tX bI bT bw HF aN HO Z ux;refine dq ?_;intro K HK;go_wp2_with fail
     refine sH.o.mono ?_;rintro e W3⟨rfl,rfl⟩;clear dg vA sH;go_wp2_with fail
     refine Z9 [(true,0),(true,1),(true,2),(true,3),(true,4),(true,5),(true,6),(true,7),(true,8),(false,9),(true,10),(true,11),(true,12),(false,13)] [14,15,16,17] (λW=>vC W p 0 (vP g)/\vC W g 0 (vI vk)/\vC W g 1 (vI vn)/\vC W g 2 (.string vt)) Pz Pz (λc a d v w h=>fA.o K c a d v w h) (HY.o _ (Zd _)) (λbq=>?_);refine f8 ?_;intro K hK;refine(GJ.o _ (Zd _)).mono ?_;rintro e W4⟨rfl,eF⟩
     have eF:=(Zd W3).trans (eF.mono (Y0 _));refine hK _ _ (HY.o _ eF) ?_;clear hK K;have Y:=lh (dE.o.below eF);have Ob:=lh (HY.o _ eF);clear eF;refine oK ?_;have c3:=Y.o.cell 3 (vI 0) PI;have c4:=Y.o.cell 4 (.string ⟨#[]⟩) PI;have c5:=Y.o.cell 5 (vI s9.steps) PI;have c2:=Y.o.rcell 0 Py;have c6:=Y.o.rcell 1 Py;have y3:=Y.o.fz 3;have y4:=Y.o.fz 4;obtain⟨C2,C4,C5,C6,C3⟩:=gp c2 c4 c5 c6 c3;clear c2 c5 c6
     refine Ze (λK hK=>?_);go_simp
     refine hK _ _ ?_ ?_
     .obtain⟨g0,I,J,F⟩:=Ob.o;refine⟨?_,?_,?_,?_⟩;·exact(Yr _ _ _ _ PJ).trans g0
      .exact(Yr _ _ _ _ PJ).trans I
      .exact(Yr _ _ _ _ PJ).trans J
      .exact(Yr _ _ _ _ PJ).trans F
     clear hK K;refine Z0 ?_;go_wp2_with fail
     refine HK.o _ _ ?_;clear HK K
     refine Zmp jF.o GV.o Y.o (code:=2) (val:=tx) (λk hk=>(Y8 _ _ _ _ hk).trans (Y8 _ _ _ _ hk)) Qb ⟨rfl,rfl,rfl⟩ (ZG Py Py C2.o) ((Yr _ _ _ _ PJ).trans (World.cell?_setCell_same _ _ _ C3.o)) (World.cell?_setCell_same _ _ _ ((Yr _ _ _ _ PJ).trans C4.o)) (ZG Py Py C5.o) (ZG Py Py C6.o) wO.o ⟨rfl,⟨rfl,rfl,rfl,trivial⟩,rfl⟩ (λy a' w' I J F=>fd.o y a' w' I J F)
end
structure RunW(w:kV)(eb:Addr):Prop where
 stop:vC w 0 0 (pY eb)
 pw:K8 w
 wd:Words w
 lv:Gv w w.heap.size
 et:Tb w
def RunW.lt{w:kV}{eb:Addr}(h:RunW w eb):0<w.heap.size:=by
 rcases Nat.lt_or_ge 0 w.heap.size with g|g;·exact g
 .have:=h.stop;simp[vC,World.cell?,Array.getElem?_eq_none g]at this
def RunW.bel{w w':kV}{eb:Addr}(h:RunW w eb)(g:kW w w'):RunW w' eb:=
 ⟨(g.cell (p:=⟨0,0,none⟩) h.lt).trans h.stop,h.pw.below g,h.wd.below g,Gv.mono (h.lv.keep λk hk=>g.block k hk) g.size,h.et.below g⟩
def oi(a:ATree)(b:Nat):Int:=match(sp kR a []).find? (λx=>x.1==b)with|some x=>x.2|none=>-3
def Z98(w:kV)(a:ATree)(e:Ending)(w':kV):Prop:=∃y,e=.returned y/\if A0 a false false=0 then Y' w (mI (a.nt (oi a))) y w' else y=.tuple #[.agg #[.slice none 0 0,vI 0,.string ⟨#[]⟩,vI 0,.slice none 0 0],da (A0 a false false)]/\kW w w'
def Acb{w:kV}{B:Nat}:∀{a:ATree},TreeAt w B a->∀x∈a.subs,tK w x.b:=by
 intro a h;induction h with
 | @mk b v k t n m blk le row hk p=>
   intro x hx;have g:∀l:List ATree,(∀y∈l,y∈m)->x∈lw l->tK w x.b:=by
    intro l;induction l with
    |nil=>intro _ h;simp[lw]at h
    |cons y l u=>
      intro hl h;simp only[lw,List.mem_append]at h;rcases h with h|h;·exact p y (hl y (Yv ..)) x h
      .exact u (λz F=>hl z (List.mem_cons_of_mem _ F)) h
   simp only[ATree.subs,List.mem_cons]at hx;rcases hx with rfl|hx;·exact⟨_,_,blk⟩
   .exact g m (λ_ h=>h) hx
def Zum{w:kV}{eb:Addr}{B nb mb:Nat}{a:ATree}(h:RunW w eb)(g:TreeAt w B a)(m:(a.subs.map (·.b)).Nodup)(p:pj w nb (sp kR a [])):Tbs ⟨w,mb,nb,eb,sp kR a []⟩:=by
 have hk:=Z9q a [];simp only[List.map_nil,List.nil_append]at hk;refine⟨⟨h.stop,h.lt,p,?_,by show((sp kR a []).map (·.1)).Nodup;rw[hk];exact m⟩,h.pw,h.wd,h.lv,h.et⟩;intro x hx;have:x.1∈a.subs.map (·.b):=by rw[<-hk];exact List.mem_map.2 ⟨x,hx,rfl⟩
 obtain⟨y,u,e⟩:=List.mem_map.1 this;rw[<-e];exact Acb g y u
def Zu4{n:NT}(hst:n.stm)(hm:n.tree.many<=1500){m:MSt}(I:m=n.vars.foldl SZ xz) :
 Inv xz (19993-1500+n.vars.length)/\Inv m (16000+n.kids.length)/\m.top=1/\Inv (m.lets n.lets 1) (6*n.funcs.length)/\(m.lets n.lets 1).glob=0/\(m.lets n.lets 1).top=1/\1<(m.lets n.lets 1).H.scopes.length/\S5 n=(m.lets n.lets 1).funcs (λs _=>s) (λs t v=>s.put 0 t v true) n.funcs 1 ⟨n.strict,0⟩/\(S5 n).top=1:=by
 refine Zvi ?_;intro hq l1 l2 l3;obtain⟨J,a2,-,-⟩:=Zcx (s:=Tr);obtain⟨F,i2⟩:=Z4g SZ 1 xz (λ_=>True) (λs d b _ _ h=>Zes h) n.vars xz 18000 (λ_ _=>trivial) (Ext.refl _) (J.less Px);rw[<-I]at F i2;obtain⟨O,U⟩:=VO (l:=n.lets) (sc:=1) (d:=16000) (F.less Px);have y:=i2.trans U;have e:S5 n=(m.lets n.lets 1).funcs (λs _=>s) (λs t v=>s.put 0 t v true) n.funcs 1 ⟨n.strict,0⟩:=by rw[I];rfl
 have X:(1:Int)<(m.lets n.lets 1).H.scopes.length:=by have h5:(1:Int)<xz.H.scopes.length:=a2.hi;have:=y.ls;omega
 obtain⟨k1,Y⟩:=Z6k (p:=λs _=>s) (g:=λs t v=>s.put 0 t v true) (d:=0) (l:=n.funcs) (sc:=1) (fr:=⟨n.strict,0⟩) (O.less Px) (V1 hst hm) Py X
  (λu e x _ hi=>⟨hi.less Px,Ext.refl _⟩) (λu e x v _ hi Z=>Ez hi Z)
 exact⟨J.less Px,F.less Px,i2.top,O.less Px,y.glob,y.top,by omega,e,by rw[e];exact Y.top.trans y.top⟩
theorem Zn6:fD []=Code.seq (fD [0]) (Code.seq (fD [1,0]) (Code.seq (fD [1,1,0]) (Code.seq (fD [1,1,1,0]) (fD [1,1,1,1])))):=by kernel_rfl
theorem Zjr:fD [1,1,1,1,1,1,1,1,1,1]=Code.seq (fD [1,1,1,1,1,1,1,1,1,1,0]) (Code.seq (fD [1,1,1,1,1,1,1,1,1,1,1,0]) (Code.seq (fD [1,1,1,1,1,1,1,1,1,1,1,1,0]) (fD [1,1,1,1,1,1,1,1,1,1,1,1,1]))):=by kernel_rfl
section
variable {C:RCtx}{M M1:MRep}{w z W:kV}{s:MSt}{B:Nat}{a:ATree}{A:Act}{Q:Exit->Act->kV->Prop}
def Zyw(T:Tbs C)(X:MAt C M z MSt.new)(ha:TreeAt z B a)(hf:a.free M)(hst:(a.nt C.N).stm)(hm:(a.nt C.N).tree.many<=1500)
 (cu:kW w C.w0)(xU:w.heap.size<C.w0.heap.size)(mS:C.w0.heap[w.heap.size]?=some (.cells #[.slice none 0 0,vI 0,.string ⟨#[]⟩,vI 0,.slice none 0 0] 30 (0,0)))(fr:FrA 201 (O' C w a []) [] A)
 (hR:∀y a' w',(results Tryz.f7 a'.tmps).run Tryz.prog w'=.ok y w'->a'.defers=[]->Y' w (mI (a.nt C.N)) y w'->Q .ret a' w')(p:∀c a d v w,Q (.panic c) (Act.put a d v) w->Q (.panic c) a w) :
 (fD [1,1,1,1]).wp Tryz.prog Q A z:=by
 obtain⟨n,hn⟩:=zX (a.nt C.N)
 obtain⟨s3,Y⟩:=zX (n.vars.foldl SZ xz)
 have I:=hst;have J:=hm;rw[<-hn]at I J;obtain⟨m1,m2,m3,m4,m5,m6,m7,m8,m9⟩:=Zu4 I J Y;obtain⟨n1,Z,n3,n4⟩:=Zo9 I J;have O:n.strict=Zi a:=by rw[hn];exact Z6e
 have dr:n.vars=zt a:=by rw[hn];exact VY
 have aX:a.kids.length=n.kids.length:=by rw[hn,Zu,AC,Ym]
 have nH:a.many<=1500:=by rw[VZ,Vi]at hm;exact hm
 have sX:a.kids.length<=1500:=by have:=SP (n:=n);omega
 have hz:=X.old.size;refine Zry X ha hf fr (λA1 W1 M1 fb Oc dY cZ KQ=>?_) p;rw[Zjr];have m:∀{M':MRep} {W':kV},MFr M1 M' W1 W'->TreeAt W' B a/\a.free M':=λf=>(cZ.trans f).tree ha hf;refine wp_seq_k (λK g=>?_);refine Zv1 (d:=18000) (s:=xz) dY rfl rfl (m (.refl _ _)).1 nH (m1.less (by rw[<-dr];have:=Z7y (n:=n);omega)) Oc (λA2 W2 M2 Bq aM U=>g _ _ ?_) (λc a d v w h=>p c a d v w h);clear g K;rw[<-hn,<-Y]at aM;refine wp_seq_k (λK g=>?_)
 refine Zu6 (d:=16000) aM m3 (m U).1 (m U).2 sX (m2.less Px) Bq (λA3 W3 M3 ue dC bg=>g _ _ ?_);clear g K;rw[<-hn]at dC;have u:=U.trans bg;refine wp_seq_k (λK g=>?_);refine Zpw (d:=0) (st:=Zi a) T.ok dC m5 m6 (m u).1 (m u).2 ⟨hst,hm⟩ sX (KQ.fr u) (m4.less (by rw[<-hn];omega)) m7 ue (λA4 W4 M4 uf fC be=>g _ _ ?_) (λc a d v w h=>p c a d v w h);clear g K;rw[<-hn,<-O,<-m8]at fC;have F:=u.trans be;rw[O]at Z
 refine Zz8 (st:=Zi a) T fC (cZ.trans F) hz (m F).1 (m F).2 hst hm n1 Z n3 m9 (KQ.fr F) cu xU mS uf (λy a' w' g1 g2 g3=>hR y a' w' g1 g2 ?_) p;rw[<-hn]at g3 ⊢;unfold mI;rw[O];exact g3
end
def Zw0(w:kV)(B:Nat)(a:ATree)(eb:Addr)(hW:RunW w eb)(I:TreeAt w B a)(hA:WA a)(Z:(a.subs.map (·.b)).Nodup)(hst:Wf .sl a.tree.kids)(hm:a.many<=1500) :
 kC 7 #[a.ptr] w (Z98 w a):=by
 obtain⟨u,J⟩:=zX (w.alloc (.cells #[.slice none 0 0,vI 0,.string ⟨#[]⟩,vI 0,.slice none 0 0] 30))
 have aO:kW w u:=by rw[J];exact Z1 _ _
 have jA:u.heap[w.heap.size]?=some (.cells #[.slice none 0 0,vI 0,.string ⟨#[]⟩,vI 0,.slice none 0 0] 30 (0,0)):=by rw[J];exact Yq _ _
 have kj:w.heap.size<u.heap.size:=(Y1.1 jA).1;have O:=Zc5 u B a false false (I.bel aO) hA Px;have hnu:=λ(W:kV) (hB:kW w W)=>Zj8 W B a (I.bel hB) Z;simp only[ATree.ptr]at O hnu;obtain⟨c,hc⟩:=zX (A0 a false false)
 have BE:=lh (show∀e w',(∃y,e=.returned y/\if c=0 then Y' w (mI (a.nt (oi a))) y w' else y=.tuple #[.agg #[.slice none 0 0,vI 0,.string ⟨#[]⟩,vI 0,.slice none 0 0],da c]/\kW w w')->Z98 w a e w' from λe w' h=>by unfold Z98;rw[<-hc];exact h);rw[<-hc]at O;obtain⟨uu,Od,HW,HT,Oe,il,HM,HZ,m,bE,jS⟩:=nG O hnu hW I Z hst hm J aO jA kj;refine calls_of_wp (c:=fD []) func7 Zta ?_
 simp only[ntmps7,ATree.ptr,List.size_toArray,List.length_cons,List.length_nil,Nat.reduceAdd,Nat.reduceSub,Array.replicate_succ,Array.replicate_zero,List.push_toArray,List.append_toArray,List.nil_append,List.cons_append];clear O hnu hW I Z hst hm J aO jA kj hc hA;rw[Zn6];refine dq ?_;intro K HK;go_wp2_with fail
 rw[<-HZ.o];refine HK.o _ _ ?_;clear HK K;refine dq ?_;intro K HK;go_wp2_with fail
 refine HK.o _ _ ?_;clear HK K;refine dq ?_;intro K HK;go_wp2_with fail
 refine uu.o.mono ?_;rintro e w2⟨rfl,ar⟩;have U:=lh ar;have X:w2.heap[w.heap.size]?=some (.cells #[.slice none 0 0,vI 0,.string ⟨#[]⟩,vI 0,.slice none 0 0] 30 (0,0)):=(ar.block _ jS.o).trans bE.o;have sy:=lh X;clear ar X;by_cases p:c=0
 .have Y:=lh p;rw[show da c= .nilIface from Y5 p];clear p;go_wp2_with fail
  refine HK.o _ _ ?_;clear HK K;refine dq ?_;intro K HK;go_wp2_with fail
  refine(Od.o w2 (m.o.trans (U.o.mono m.o.size))).mono ?_;rintro e w3⟨nb,rfl,hP,F,dl⟩;have HP:=lh hP;have g:=lh F;clear hP F dl;go_wp2_with fail
  refine HK.o _ _ ?_;clear HK K;have ah:=m.o.trans (U.o.mono m.o.size);have bj:=ah.trans (g.o.mono ah.size);obtain⟨M,hM⟩:=Acj w3 nb eb (sp kR a []);have mn:=HT.o.bel bj;refine Zyw (w:=w) (B:=B) (a:=a) (Zum (mb:=w3.heap.size) (HW.o.bel bj) mn Oe.o HP.o) hM (mn.bel (Z1 _ _)) (λk hk=>?_) ?_ ?_ bj ?_ ?_ ⟨rfl,⟨rfl,rfl,rfl,trivial⟩,rfl⟩ (λy a' w' g1 g2 g3=>Yp g1 g2 (BE.o _ _ ⟨y,rfl,?_⟩)) (λc a d v w h=>by cases d<;>exact h)
  .obtain⟨c,T,f,h1,-⟩:=mn.typed k hk;exact hM.far k (Y1.1 h1).1
  .show Wf .sl (rq (ATree.nt _ a).kids);rw[<-K9,VZ];exact il.o
  .rw[VZ,Vi];exact HM.o
  .have h1:=jS.o;have h2:=U.o.size;have h3:=g.o.size;show w.heap.size<w3.heap.size;omega
  .exact(g.o.block _ (Y1.1 sy.o).1).trans sy.o
  .rw[Y5 Y.o];exact g3
 .have Y:=lh p;rw[show da c= .iface 44 (vI c)from Y3 p];clear p;have q:=sy.o;have X:w2.cell? ⟨w.heap.size,0,none⟩=some (.slice none 0 0):=by simp[vC,World.cell?,q]
  have z0:w2.frozen? ⟨w.heap.size,0,none⟩=false:=QN
  have q1:w2.cell? ⟨w.heap.size,1,none⟩=some (vI 0):=Q6
  have u:w2.frozen? ⟨w.heap.size,1,none⟩=false:=QN
  have q2:w2.cell? ⟨w.heap.size,2,none⟩=some (.string ⟨#[]⟩):=Q6
  have z2:w2.frozen? ⟨w.heap.size,2,none⟩=false:=QN
  have q3:w2.cell? ⟨w.heap.size,3,none⟩=some (vI 0):=Q6
  have z3:w2.frozen? ⟨w.heap.size,3,none⟩=false:=QN
  have q4:w2.cell? ⟨w.heap.size,4,none⟩=some (.slice none 0 0):=Q6
  have z4:w2.frozen? ⟨w.heap.size,4,none⟩=false:=QN
  clear q;go_wp2_with fail
  refine Yp (v:=.tuple #[.agg #[.slice none 0 0,vI 0,.string ⟨#[]⟩,vI 0,.slice none 0 0],.iface 44 (vI c)]) ?_ rfl ?_;·simp[results,results7,go_sem,X,q1,q2,q3,q4]
  .refine BE.o _ _ ⟨_,rfl,?_⟩;rw[Y3 Y.o,show da c=.iface 44 (vI c)from Y3 Y.o];refine⟨rfl,?_⟩;have hb:=m.o.trans (U.o.mono m.o.size);exact⟨hb.os,hb.tape,hb.output,by simpa[World.setCell]using hb.size,λk hk=>by
    rw[Y8 _ _ _ _ (show k≠w.heap.size by omega),Y8 _ _ _ _ (show k≠w.heap.size by omega),Y8 _ _ _ _ (show k≠w.heap.size by omega),Y8 _ _ _ _ (show k≠w.heap.size by omega),Y8 _ _ _ _ (show k≠w.heap.size by omega)];exact hb.block k hk⟩
def Zho:kB:=⟨#[118,97,114,32,97,32,61,32,50,59,32,112,114,105,110,116,40,97,32,42,32,51,41,59]⟩
def Zg8:Tree:=.mk 1 ⟨#[]⟩ 0 [.mk 2 ⟨#[97]⟩ 0 [.mk 17 ⟨#[]⟩ 2 []],.mk 15 ⟨#[]⟩ 0 [.mk 35 ⟨#[]⟩ 0 [.mk 23 ⟨#[112,114,105,110,116]⟩ 0 [],.mk 31 ⟨#[]⟩ 0 [.mk 23 ⟨#[97]⟩ 0 [],.mk 17 ⟨#[]⟩ 3 []]]]]
theorem Zdw:Zt Zho=.ok Zg8:=by kernel_rfl
def Zvh(a b c d e f g h i:Int):NT:=.mk a 1 ⟨#[]⟩ 0 [.mk b 2 ⟨#[97]⟩ 0 [.mk c 17 ⟨#[]⟩ 2 []],.mk d 15 ⟨#[]⟩ 0 [.mk e 35 ⟨#[]⟩ 0 [.mk f 23 ⟨#[112,114,105,110,116]⟩ 0 [],.mk g 31 ⟨#[]⟩ 0 [.mk h 23 ⟨#[97]⟩ 0 [],.mk i 17 ⟨#[]⟩ 3 []]]]]
theorem Zru(a b c d e g i:Int)(f h:Nat):(mI (Zvh a b c d e (Int.ofNat f) g (Int.ofNat h) i)).code=1:=by kernel_rfl
theorem Zu5(a b c d e g i:Int)(f h:Nat):(mI (Zvh a b c d e (Int.ofNat f) g (Int.ofNat h) i)).log=[⟨#[54]⟩]:=by kernel_rfl
def Zrs{a x:ATree}(hx:x∈a.subs):∃k:Nat,oi a x.b=Int.ofNat k:=by
 have h:=Zeg a x hx;unfold oi;cases hf:(sp kR a []).find? (λy=>y.1==x.b)with
 |none=>exact absurd (List.find?_eq_none.1 hf _ h) PE
 |some y=>exact⟨y.2,rfl⟩
def Tw{a:ATree}{k:Int}{s:kB}{n:Int}{l:List Tree}(h:a.tree=.mk k s n l):∃b v g,a=.mk b v k s n g/\f6 g=l:=by
 obtain⟨b,v,m,s',p,g⟩:=a;simp only[ATree.tree,Tree.mk.injEq]at h;obtain⟨rfl,rfl,rfl,h⟩:=h;exact⟨b,v,g,rfl,h⟩
def Uv{l:List ATree}{t:Tree}{r:List Tree}(h:f6 l=t::r):∃a g,l=a::g/\a.tree=t/\f6 g=r:=by
 cases l with
 |nil=>simp[f6]at h
 |cons a l=>simp only[f6,List.cons.injEq]at h;exact⟨a,l,rfl,h.1,h.2⟩
def UP{l:List ATree}(h:f6 l=[]):l=[]:=by
 cases l with
 |nil=>rfl
 |cons a l=>simp[f6]at h
def Zr3{a:ATree}(h:a.tree=Zg8):A0 a false false=0/\(mI (a.nt (oi a))).code=1/\(mI (a.nt (oi a))).log=[⟨#[54]⟩]:=by
 have hn:=λx hx=>Zrs (a:=a) (x:=x) hx;obtain⟨N,m⟩:=zX (oi a)
 rw[<-m]at hn ⊢;clear m;obtain⟨p,v0,l0,rfl,I⟩:=Tw h;obtain⟨a1,r0,rfl,h1,J⟩:=Uv I;obtain⟨a2,r1,rfl,O,U⟩:=Uv J;obtain rfl:=UP U;obtain⟨b1,X,l1,rfl,Y⟩:=Tw h1;obtain⟨a3,r2,rfl,Z,e2⟩:=Uv Y;obtain rfl:=UP e2;obtain⟨b3,v3,l3,rfl,g3⟩:=Tw Z;obtain rfl:=UP g3;obtain⟨b2,v2,l2,rfl,g2⟩:=Tw O;obtain⟨a4,r3,rfl,h4,e3⟩:=Uv g2;obtain rfl:=UP e3;obtain⟨b4,v4,l4,rfl,g4⟩:=Tw h4;obtain⟨a5,r4,rfl,h5,e4⟩:=Uv g4;obtain⟨a6,r5,rfl,h6,e5⟩:=Uv e4;obtain rfl:=UP e5;obtain⟨b5,v5,l5,rfl,g5⟩:=Tw h5
 obtain rfl:=UP g5;obtain⟨u,v6,l6,rfl,g6⟩:=Tw h6;obtain⟨a7,r6,rfl,h7,e6⟩:=Uv g6;obtain⟨a8,r7,rfl,h8,e7⟩:=Uv e6;obtain rfl:=UP e7;obtain⟨b7,y,l7,rfl,g7⟩:=Tw h7;obtain rfl:=UP g7;obtain⟨F,v8,l8,rfl,g8⟩:=Tw h8;obtain rfl:=UP g8;obtain⟨f,hf⟩:=hn (.mk b5 v5 23 ⟨#[112,114,105,110,116]⟩ 0 []) (by simp[ATree.subs,lw]);obtain⟨g,G⟩:=hn (.mk b7 y 23 ⟨#[97]⟩ 0 []) (by simp[ATree.subs,lw]);simp only[ATree.b]at hf G
 have e:ATree.nt N (.mk p v0 1 ⟨#[]⟩ 0 [.mk b1 X 2 ⟨#[97]⟩ 0 [.mk b3 v3 17 ⟨#[]⟩ 2 []],.mk b2 v2 15 ⟨#[]⟩ 0 [.mk b4 v4 35 ⟨#[]⟩ 0 [.mk b5 v5 23 ⟨#[112,114,105,110,116]⟩ 0 [],.mk u v6 31 ⟨#[]⟩ 0 [.mk b7 y 23 ⟨#[97]⟩ 0 [],.mk F v8 17 ⟨#[]⟩ 3 []]]]])=Zvh (N p) (N b1) (N b3) (N b2) (N b4) (Int.ofNat f) (N u) (Int.ofNat g) (N F):=by
  rw[<-hf,<-G];rfl
 rw[e];exact⟨rfl,Zru ..,Zu5 ..⟩
