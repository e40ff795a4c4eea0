/- Package run: try. -/
import Derived.Test.YtjikfacdcdiddaaGreatDoorJ26
import Derived.Test.YtjikfacdcdiddaaGreatDoorJ27
set_option maxRecDepth 100000
set_option maxHeartbeats 20000000
set_option linter.unusedVariables false
set_option linter.unusedSimpArgs false
set_option maxRecDepth 1000000
namespace Go.Proofs.YtjikfacdcdiddaaGreatDoor
open Go Go.RowKit
section
variable {C:RCtx}{M M':MRep}{w w':World}{s s':MSt}{B:Nat}{a:ATree}{V:VF}{D:DF}{b:Int}{sc:Int}{fr:Frm}{d:Nat}
theorem Zg8{D:DF}:∀l:List NT,vH D sc fr l (s,.error .stop)=(s,.error .stop)
 | []=>rfl
 |k::l=>rfl
theorem Zdc{D:DF}{k:NT}{l:List NT}{v:LVal}(h:k.kind≠13):vH D sc fr (k::l) (s,.error (.thr v))=match D (k.kid 0) sc fr s with
 |(s1,.ok (false,_))=>vH D sc fr l (s1,.error (.thr v))
 |x=>vH D sc fr l x:=by
 exact Zu2
theorem Zmc{D:DF}{k:NT}{l:List NT}{r:Bool×LVal}(h:k.kind≠13):vH D sc fr (k::l) (s,.ok r)=match D (k.kid 0) sc fr s with
 |(s1,.ok (false,_))=>vH D sc fr l (s1,.ok r)
 |x=>vH D sc fr l x:=by
 exact Zu2
theorem Zmw(hC:C.Ok)(oA:OK C.w0)(cZ:Dl C D b)(hD:DH D b)(h:MAt C M w s)(hI:Inv s (d+4))(hA:FAt s sc fr)(hb:b<=s.steps)(hs:s.steps<=20000)(ha:TreeAt w B a)(hf:a.free M){x0:ATree}{l:List ATree}(cB:a.kids=x0::l)
 (w0:(x0.nt C.N).wf .s)(m0:(x0.nt C.N).tree.many<=1500)(hl:l.length<=2)(ku:1<=l.length)(eV:∀k∈l,(k.kind=13∨k.kind=14)∧∃c,k.kids=[c]∧(c.nt C.N).wf .s∧(c.nt C.N).tree.many<=1500) :
 Calls Tryz.prog 83 #[vP C.mb,a.ptr,vI sc,.agg #[.bool fr.strict,vI fr.vars]] w λe w'=>iz C M w (KE D (a.nt C.N) sc fr s) e w':=by
 obtain⟨R,hR⟩:=zX (KE D (a.nt C.N) sc fr s)
 rw[<-hR];unfold KE at hR;have e0:(a.nt C.N).kid 0=x0.nt C.N:=sp Qe;have e1:(a.nt C.N).kids.tail=l.map (ATree.nt C.N):=by rw[Zq,yn,cB];rfl
 rw[e0,e1]at hR;refine Kz ?_;intro aI lf lr z hz;rw[<-hz]at aI lf lr;have aE:=h.below aI;have aJ:=ha.bel aI;obtain⟨q,hq⟩:=zX l.length
 obtain⟨kg,kc,c3,ct,aR,bO,ba,eU⟩:=aJ.row hf PH;rw[cB]at c3 ct bO;have Y:x0∈a.kids:=PH
 have k0:=bO 0 x0 rfl;simp only[List.length_cons,<-hq]at c3 ct;have ap:∀W M',MFr M M' z W->vC W w.heap.size 0 (.bool fr.strict)∧vC W w.heap.size 1 (vI fr.vars)∧vC W a.b 3 (.slice (some ⟨kg,0,none⟩) (q+1) kc)∧vC W kg 0 (vP x0.b):=λW M' f=>⟨(lf.fr f).cell rfl,(lf.fr f).cell rfl,(f.cell aJ.lt hf.blk).trans c3,(f.cell ba eU).trans k0⟩;obtain⟨r1,bA⟩:=zX (D (x0.nt C.N) sc fr s)
 have bF:=lh (cZ.from aE hI hA hb hs w0 m0 (aJ.kid Y) (hf.kid Y));have aj:=(hD (x0.nt C.N) sc fr s _ w0 m0 hI hA hb hs).1;rw[<-bA]at bF aj hR;have bR:=lh (aj.less (e:=d+2*q) O');have HR:=lh hR;have HS:=lh ap;have ar:=lh lr;refine DX ?_;intro dH bJ HM HO HE;have ii:=lh hA;have HB:=lh hb;have iX:=lh cZ;have HD:=lh hD;have qr:=lh hC;have vN:=lh oA;have lZ:=lh (show∀(i:Nat) (y:ATree),l[i]?=some y->z.cell? ⟨kg,i+1,none⟩=some (vP y.b)from λi y hy=>bO (i+1) y hy)
 have qV:=lh (show∀y∈l,TreeAt z B y∧y.free M from λy hy=>⟨aJ.kid Q4,hf.kid Q4⟩);have jv:=lh eV;have mG:=lh (Y4 h.old.size aI.size);have bJ:=lh aI;have fL:=lh ba;have xV:=lh eU;have HQ:=lh hq;have HZ:=lh hz;have ng:1<=q∧q<=2:=O'
 have d3:=(ap z M (.refl _ _)).2.2.1;clear hz aE lf lr aI aJ ha hf h hI hA hR cB e0 e1 c3 k0 bO Y ap bA aj cZ hD hb hs hC oA eV ba eU hq hl ku;unfold ATree.ptr;go_enter Tryz.func83,Tryz.ntmps83
 go_wp2_with fail
 rw[<-HZ.o]
 refine uY (.take 0 (.take 1 (.take 2 (.take 3 (.take 4 (.take 5 (.take 6 (.take 7 (.take 8 (.two 9 (.take 10 (.take 11 (.take 12 (.take 13 (.go 14 (.go 15 (.go 16 (.go 17 (.nil))))))))) 14 (.go 9 (.take 10 (.take 11 (.take 12 (.take 13 (.go 15 (.go 16 (.go 17 (.nil))))))))))))))))))) 16 (λW=>vC W w.heap.size 0 (.bool fr.strict)∧vC W w.heap.size 1 (vI fr.vars)∧vC W a.b 3 (.slice (some ⟨kg,0,none⟩) (q+1) kc)∧vC W kg 0 (vP x0.b)) (HS.o _ _ (MFr.drew (.refl _ _))) ?_
 refine lM ?_;refine Zt ?_;apply WG (H:=Hx C w M z r1);·exact ZZ HS bF HE.o HO.o
 .exact Aat HS bF HM HE.o HO.o
 intro W1 p1 M1 b1 k1 n1 t1 bU ai;have bw:=lh ai.1.2.1;have bZ:=lh ai.1.1;have j7:=lh ai.2;have qO:=lh ai.1.2.2;have e3:=(HS.o W1 M1 ai.1.2.1).2.2.1;have li:p1≠w.heap.size+1:=by have h1:=ai.2.late;have h2:=ar.o.lt;omega
 have hn0:0<q+1:=O'
 have iY:(1:Int)<=((q+1:Nat):Int):=O'
 have Gb:2<=kc:=O'
 clear ai d3;go_wp2_with fail
 go_loopw [11,13,41] (λbv ev i wr=>∃(k:Nat) (Mk:MRep) (rk:MSt×Except Er (Bool×LVal)) (E:Bool) (kk nk:Int) (tk:ByteArray),k<=q∧i=(vI k)∧bv=.bool E∧Hid (MAt C Mk wr rk.1)∧Hid (MFr M Mk z wr)∧Hid (Lo C Mk z wr p1 #[vI kk,vI nk,.string tk] 55)∧
  Hid (match rk.2 with
   | .ok v=>v=(E,⟨kk,nk,tk⟩)∧ev=.nilIface
   | .error x=>ak C Mk wr x ev)∧Hid (Fin s (d+2*(q-k)) DQ rk)∧Hid (R=vH D sc fr ((l.drop k).map (ATree.nt C.N)) rk)) (λ_ _ i _=>q-(intOf i).toNat)
 case atStart=>exact⟨0,M1,r1,b1,k1,n1,t1,Yh _,rfl,rfl,bZ,bw,j7,qO,lh (by rw[Nat.sub_zero];exact bR.o),lh (by rw[List.drop_zero];exact HR.o)⟩
 case round=>
  obtain⟨k,Mk,rk,E,kk,nk,tk,MA,rfl,rfl,O,bH,pd,qn,eo,dY⟩:=hrel;rcases Nat.lt_or_ge k q with hk|hk
  .obtain⟨x,hx⟩:∃x,l[k]? =some x:=⟨_,Y6 (by have :=HQ.o;omega)⟩
   have Y:=Yd hx;have CX:=lh (qV.o x Y);have eY:=lh (bH.o.tree (qV.o x Y).1 (qV.o x Y).2);have Bn:=lh (jv.o x Y);have hR:=dY.o;have e9:l.drop k=x::l.drop (k+1):=by
    obtain⟨h1,h2⟩:=List.getElem?_eq_some_iff.1 hx;rw[List.drop_eq_getElem_cons h1,h2]
   rw[e9,List.map_cons]at hR;have Cy:wr.cell? ⟨kg,1+k,none⟩=some (vP x.b):=by rw[Nat.add_comm 1 k];exact(bH.o.cell fL.o xV.o).trans (lZ.o k x hx)
   have CY:Below wr.heap.size wr (wr.alloc (.cells #[.pointer none] 71)):=Z1 _ _;have U:=lh CY;have NI:=lh (Lo.new (wE:=z) O.o bH.o.size mG.o #[.pointer none] 71);have dk:=(eY.o.1.bel CY).c0;have dg:(wr.alloc (.cells #[.pointer none] 71)).cell? ⟨0,0,none⟩=some (oj C.eb):=((O.o.below CY).old.cell qr.o.stopB).trans qr.o.stop;clear hx Y e9 CY;obtain⟨sk,qk⟩:=rk;rcases qk with(_|v0)|v0
   .have I:=qn.o;simp only[ak]at I;rw[Zg8]at hR;subst hR;have he:=Zk7 C.eb (wr.alloc (.cells #[.pointer none] 71));have Bo:=lh I;rw[I];clear I;unfold oj at dg he ⊢;go_wp2_with fail
    obtain⟨b0,b1,b2,-,-,-⟩:=(pd.o.fr (MFr.of_below U.o)).six;obtain⟨q0,q1,q2,z0,z1,z2⟩:=(ar.o.fr (bH.o.trans (MFr.of_below U.o))).six;refine Zwf ?_;refine mA ?_;go_wp2;refine bodyPost_ret (v:=.tuple #[.bool E,.agg #[vI kk,vI nk,.string tk],.iface 241 (.pointer (some C.eb))]) ?_ rfl ?_;·simp[results,Tryz.results83,go_sem,q0,q1,q2]
    .exact .err ar.o bJ.o (O.o.below U.o).drew ((bH.o.trans (.of_below U.o)).trans (.drew (.refl _ _))) (show ak C _ _ .stop (oj C.eb)from rfl)
   .obtain⟨p,I,gU,tY⟩:=qn.o;have Bo:=lh (show ak C Mk wr (.thr v0) (qy p)from⟨p,rfl,gU,tY⟩);have he:=Zp5 C.eb p (wr.alloc (.cells #[.pointer none] 71));rw[I];clear I;unfold oj at dg;unfold oj qy at he;unfold qy;rcases Bn.o.1 with mV|Bq
    .rw[mV]at dk;obtain⟨vk,vn,vt⟩:=v0;obtain⟨y,u,wy,my⟩:=Bn.o.2;have eD:y∈x.kids:=by rw[u];simp
     have Kq:(x.nt C.N).kid 0=y.nt C.N:=sp (by rw[u];rfl);have am:R=vH D sc fr ((l.drop (k+1)).map (ATree.nt C.N)) (D (y.nt C.N) sk.next fr ((sk.opens sc (-1) (C.N x.b)).declare sk.next x.text 0 ⟨vk,vn,vt⟩)):=by
      rw[hR,<-Kq];simp only[vH,Zc,mV,if_true,Zz,Wz]
     obtain⟨xg,xc,kp,dP,sh,J,jx,f8⟩:=eY.o.1.row eY.o.2 (by rw[u];simp);rw[u]at kp dP J;have uF:=J 0 y rfl;simp only[List.length_cons,List.length_nil]at kp dP;have kp:vC wr x.b 3 (.slice (some ⟨xg,0,none⟩) 1 xc):=kp;obtain⟨z1,F⟩:=zX (wr.alloc (.cells #[.pointer none] 71))
     have aL:=U.o;rw[<-F]at aL;have cY:p<wr.heap.size:=(Y1.1 gU).1;have Gx:wr.heap.size<z1.heap.size:=by rw[F];simp
     have Br:=NI.o;rw[<-F]at Br;obtain⟨z2,au,wO⟩:∃z2,Below z1.heap.size z1 z2∧Calls Tryz.prog 23 #[.iface 71 (vP p),.iface 73 (vP wr.heap.size)] z1 λev w'=>ev=.returned (.bool true)∧w'=z2.setCell ⟨wr.heap.size,0,none⟩ (vP p):=by
      refine⟨_,?_,Zdi ⟨p,0,none⟩ ⟨wr.heap.size,0,none⟩ (.pointer none) z1 (vN.o.below ((O.o.below aL).old)) (Br.cell rfl) (Br.fz 0)⟩;have A:∀{W:World} (o:Obj),Below z1.heap.size z1 W->Below z1.heap.size z1 (W.alloc o):=λo h=>h.alloc h.size o;exact A _ (A _ (A _ (Z1 _ _)))
     have Z:Below wr.heap.size wr z2:=aL.trans (au.mono aL.size);obtain⟨od,CZ,wP⟩:=(Br.bel au).put (O.o.below Z) (bH.o.trans (.of_below Z)) Pa Pa 0 (vP p);have lA:(z2.setCell ⟨wr.heap.size,0,none⟩ (vP p)).heap[p]?=some (lD ⟨vk,vn,vt⟩):=(Y8 _ _ _ _ (by first|exact Nat.ne_of_lt cY|exact(Nat.ne_of_lt cY).symm)).trans ((Z.block p cY).trans gU)
     have fJ:MFr Mk Mk wr (z2.setCell ⟨wr.heap.size,0,none⟩ (vP p)):=⟨Z.os,Z.tape,Z.output,by simpa[World.setCell]using Z.size,λi hi _=>(Y8 _ _ _ _ (by first|exact Nat.ne_of_lt hi|exact(Nat.ne_of_lt hi).symm)).trans (Z.block i hi),λ_ _ h=>h⟩
     obtain⟨z3,yc⟩:=zX (z2.setCell ⟨wr.heap.size,0,none⟩ (vP p))
     rw[<-yc]at wO od CZ wP lA fJ;have qF:p<z3.heap.size:=(Y1.1 lA).1;have dq:=lh od;have bE:=lh CZ;have ms:=lh (CZ.tree CX.o.1 CX.o.2);have oC:=lh (Z5l qr.o od ms.o.1);obtain⟨i1,x1,c1,ey,i2⟩:=eo.o;have i2:sk.steps<=20000:=i2;have gM:b<=sk.steps:=by have:=HB.o;have h2:s.steps<=sk.steps:=x1.steps;omega
     have i1:Inv sk (d+2*(q-(k+1))+1+1):=i1.less O';have sX:=ii.o.ext x1;have eP:=i1.opens (outer:=sc) (object:=-1) (owner:=C.N x.b) (by have:=sX.lo;omega) sX.hi Pa O';have eO:=TE od i1 sc (-1) (C.N x.b);obtain⟨nx,eG⟩:=zX sk.next
     have sY:=sX.opens eP.2;obtain⟨so,aV⟩:=zX (sk.opens sc (-1) (C.N x.b))
     rw[<-aV,<-eG]at eO sY am;rw[<-aV]at eP;have dC:so.steps=sk.steps:=Rk
     have oE:so.calls=sk.calls:=Rk
     obtain⟨j1,j2⟩:=Ta (sc:=nx) (kind:=0) (name:=x.text) (v:=⟨vk,vn,vt⟩) eP.1 (LVal.ok.mono (v:=⟨vk,vn,vt⟩) ey eP.2.lo) Pa Pa;obtain⟨sd,qj⟩:=zX (so.declare nx x.text 0 ⟨vk,vn,vt⟩)
     rw[<-qj]at j1 j2 am;have eC:sd.steps=sk.steps:=by rw[qj,<-dC];rfl
     have Bt:sd.calls=sk.calls:=by rw[qj,<-oE];rfl
     obtain⟨r3,dp⟩:=zX (D (y.nt C.N) nx fr sd)
     have aj:=(HD.o (y.nt C.N) nx fr sd _ wy my j1 (sY.ext j2) O' O').1;rw[<-dp]at aj am;have mw:=lh (Fin.pre (x1.trans (eP.2.trans j2)) (Bt.trans c1) aj);have bD:=lh am;have sF:=lh wO;have jK:=lh eO;have na:=lh eP.1;have Kr:=lh (λW M' (hM:MAt C M' W sd) (hT:TreeAt W B y∧y.free M')=>iX.o.from hM j1 (sY.ext j2) O' O' wy my hT.1 hT.2 W (Y2 _ _));rw[<-dp]at Kr;have oU:=lh qj;have O3:=lh yc;have po:=lh (And.intro (ms.o.1.kid eD) (ms.o.2.kid eD))
     have iW:=lh (show∀W M',MFr Mk M' z3 W->vC W x.b 1 (.string x.text)∧vC W wr.heap.size 0 (vP p)∧vC W p 0 (vI vk)∧vC W p 1 (vI vn)∧vC W p 2 (.string vt)from
      λW M' f=>have hw:=(f.block p qF tY).trans lA;⟨((bE.o.trans f).tree CX.o.1 CX.o.2).1.c1,(wP.fr f).cell rfl,by simp[vC,World.cell?,hw,lD,LVal.arr],by simp[vC,World.cell?,hw,lD,LVal.arr],by simp[vC,World.cell?,hw,lD,LVal.arr]⟩)
     have np:=lh (show∀W M',MFr Mk M' z3 W->vC W w.heap.size 0 (.bool fr.strict)∧vC W w.heap.size 1 (vI fr.vars)∧vC W x.b 3 (.slice (some ⟨xg,0,none⟩) 1 xc)∧vC W xg 0 (vP y.b)from
      λW M' f=>have g:=fJ.trans f;⟨(dH.o.fr (bH.o.trans g)).cell rfl,(dH.o.fr (bH.o.trans g)).cell rfl,(g.cell eY.o.1.lt eY.o.2.blk).trans kp,(g.cell jx f8).trans uF⟩)
     have oO:=lh (pd.o.fr fJ);clear u eD Kq hR am J uF kp jx f8 aL cY Gx Br wO au Z od CZ wP lA fJ yc qF i1 x1 c1 ey i2 gM sX eP eO eG sY aV dC oE j1 j2 qj eC Bt dp aj;simp only[ATree.ptr]at oC;go_wp2_with fail
     rw[<-F];refine sF.o.mono ?_;rintro e W2⟨rfl,rfl⟩;clear dk dg he F;go_wp2_with fail
     refine oC.o.mono ?_;rintro e W2⟨rfl,rfl⟩;go_wp2_with fail
     refine jK.o.mono ?_;rintro e W4⟨rfl,M4,fN,bh⟩;have jg:=lh fN;have kC:=lh bh;have fm:=TN fN.drew na.o nx x.text 0 ⟨vk,vn,vt⟩;rw[<-oU.o]at fm;simp only[LVal.agg]at fm;have lW:=lh fm;clear fN bh fm;obtain⟨e1,e2,Gy,e4,e5⟩:=iW.o _ _ kC.o;go_wp2_with fail
     refine oi [(true,0),(true,1),(true,2),(true,3),(true,4),(true,5),(true,6),(true,7),(true,8),(true,9),(true,10),(true,11)] [12] (λW=>vC W x.b 1 (.string x.text)∧vC W wr.heap.size 0 (vP p)∧vC W p 0 (vI vk)∧vC W p 1 (vI vn)∧vC W p 2 (.string vt)) (iW.o _ _ (kC.o.trans (.drew (.refl _ _)))) (λbu=>?_);refine ep ?_;refine Z0 ?_;go_wp2_with fail
     refine lW.o.mono ?_;rintro e W5⟨rfl,M5,lX,em⟩;have F5:=kC.o.trans ((MFr.drew (.refl M4 W4)).trans em);clear e1 e2 Gy e4 e5;have re:=lh F5;have AS:=lh (Kr.o _ _ lX.drew ((F5.trans (.drew (.refl _ _))).tree po.o.1 po.o.2));clear lX em F5;obtain⟨e1,e2,Gy,e4⟩:=np.o _ _ re.o;go_wp2_with fail
     refine uY (.take 0 (.take 1 (.take 2 (.take 3 (.take 4 (.take 5 (.take 6 (.take 7 (.take 8 (.go 9 (.take 10 (.take 11 (.take 12 (.take 13 (.go 14 (.go 15 (.go 16 .nil))))))))))))))))) 15 (λW=>vC W w.heap.size 0 (.bool fr.strict)∧vC W w.heap.size 1 (vI fr.vars)∧vC W x.b 3 (.slice (some ⟨xg,0,none⟩) 1 xc)∧vC W xg 0 (vP y.b)) (np.o _ _ (re.o.trans (.drew (.refl _ _)))) ?_;refine lM ?_;refine mH (λK hK=>?_);refine AS.o.mono ?_
     rintro e W6⟨M6,b6,k6,n6,t6,Ks,rfl,la⟩;have F6:=(re.o.trans (.drew (.refl _ _))).trans la.2.1;refine hK _ _ (np.o _ _ F6) ?_;clear hK K e1 e2 Gy e4;have z7:=oO.o.fr F6;obtain⟨q0,q1,q2,z0,pe,rG⟩:=z7.six;have j0:=lh (z7.fill (x':=(vI k6)) (y':=(vI n6)) (z':=.string t6) la.1 (bE.o.trans F6) z7.late);have Gz:=lh la.2.2;have py:=lh (np.o _ _ F6);clear la F6 z7;simp only[ag];try simp only[Act.put,zA,zB,zC]
     refine lM ?_;refine mH (λK hK=>?_);refine hK _ _ py.o ?_;clear hK K;try simp only[Act.put,zA,zB,zC]
     refine mA ?_;have Bu:match r3.2 with
      | .ok v=>v=(b6,⟨k6,n6,t6⟩)∧Ks=.nilIface
      | .error x=>ak C M6 (((W6.setCell ⟨p1,0,none⟩ (vI k6)).setCell ⟨p1,1,none⟩ (vI n6)).setCell ⟨p1,2,none⟩ (.string t6)) x Ks:=by
      have h3:=Gz.o;rcases hr:r3.2 with x|v;·rw[hr]at h3;exact j0.o.2.2.2 _ _ h3
      .rw[hr]at h3;exact h3
     have NJ:=lh Bu;clear Bu;go_wp2_with fail
     go_roundw
     case rel=>exact⟨k+1,M6,r3,b6,k6,n6,t6,by omega,by go_num,rfl,lh j0.o.1,lh j0.o.2.1,lh j0.o.2.2.1,NJ,mw,bD⟩
     case measure=>simp[intOf];omega
    ·rw [Bq] at dk;rw [Zdc (by rw [Zc, Bq]; decide)] at hR;obtain ⟨y, u, wy, my⟩ := Bn.o.2;obtain ⟨xg, xc, kp, dP, sh, J, jx, f8⟩ := eY.o.1.row eY.o.2 (by rw [u]; simp);rw [u] at kp dP J;have uF := J 0 y rfl;simp only [List.length_cons, List.length_nil] at kp dP;have kp : vC wr x.b 3 (.slice (some ⟨xg, 0, none⟩) 1 xc) := kp;have eD : y ∈ x.kids := by rw [u]; simp
     rw[sp (i:=0) (x:=y) (by rw[u];rfl)]at hR;obtain⟨z1,F⟩:=zX (wr.alloc (.cells #[.pointer none] 71))
     have Ch:=lh F;have aL:=U.o;rw[<-F]at aL;have bw:=lh (bH.o.trans (MFr.of_below (M:=Mk) aL));have bZ:=lh (O.o.below aL);have ej:=lh (Y4 HE.o bw.o.size);obtain⟨i1,x1,c1,ey,i2⟩:=eo.o;refine Zuj ?_;intro i2 gM r3 dp bS aj;rw[<-dp]at bS aj hR;refine ZQ ?_;intro bC HR cD av;clear u J uF kp eD F aL i1 x1 c1 ey i2 gM dp aj hR jx f8;go_wp2_with fail
     rw[<-Ch.o];clear dk dg he;refine Aab ?_;apply WG (H:=Hx C w Mk z1 r3);·exact ZZ cD bS ej.o HO.o
     .exact Zw7 cD bS bZ ej.o HO.o
     intro W3 p2 M3 b3 k3 n3 t3 fg aX;have F3:=(MFr.of_below (M:=Mk) av.o).trans aX.1.2.1;have bE:=lh F3;have dq:=lh aX.1.1;have oO:=lh aX.2;obtain⟨s3,q3⟩:=r3;cases q3 with
     | error x3 =>
       exact XJ
     | ok v3 =>
       obtain⟨rfl,rfl⟩:v3=(b3,⟨k3,n3,t3⟩)∧fg=.nilIface:=aX.1.2.2;clear aX F3;cases b3
       .have dU:=lh (show R=vH D sc fr ((l.drop (k+1)).map (ATree.nt C.N)) (s3,.error (.thr v0))from HR.o);have qq:Fin s (d+2*(q-(k+1))) DQ (s3,.error (.thr v0)):=⟨bC.o.1,eo.o.2.1.trans bC.o.2.1,bC.o.2.2.1.trans eo.o.2.2.1,LVal.ok.mono (v:=v0) eo.o.2.2.2.1 bC.o.2.1.lo,bC.o.2.2.2.2⟩
        have mw:=lh qq;clear HR qq;go_wp2_with fail
        go_roundw
        case rel=>exact⟨k+1,M3,(s3,.error (.thr v0)),E,kk,nk,tk,by omega,by go_num,rfl,dq,lh (bH.o.trans bE.o),lh (pd.o.fr bE.o),lh (Bo.o.fr bE.o),mw,dU⟩
        case measure=>simp[intOf];omega
       .exact XF
   .have I:=qn.o;obtain⟨rfl,I⟩:=I;have he:=Zp9 C.eb (wr.alloc (.cells #[.pointer none] 71));rw[I];clear I;unfold oj at dg he;rcases Bn.o.1 with mV|Bq
    .rw[mV]at dk;have am:R=vH D sc fr ((l.drop (k+1)).map (ATree.nt C.N)) (sk,.ok (E,⟨kk,nk,tk⟩)):=by
      rw[hR];simp only[vH,Zc,mV,if_true]
     have bD:=lh am;have mw:=lh (eo.o.less (e:=d+2*(q-(k+1))) O');clear hR am;go_wp2_with fail
     refine(Zlx _ _).mono ?_;rintro e W2⟨rfl,rfl⟩;go_wp2_with fail
     go_roundw
     case rel=>exact⟨k+1,Mk,(sk,.ok (E,⟨kk,nk,tk⟩)),E,kk,nk,tk,by omega,by go_num,rfl,lh (O.o.below U.o),lh (bH.o.trans (.of_below U.o)),lh (pd.o.bel U.o),lh ⟨rfl,rfl⟩,mw,bD⟩
     case measure=>simp[intOf];omega
    ·rw [Bq] at dk;rw [Zmc (by rw [Zc, Bq]; decide)] at hR;obtain ⟨y, u, wy, my⟩ := Bn.o.2;obtain ⟨xg, xc, kp, dP, sh, J, jx, f8⟩ := eY.o.1.row eY.o.2 (by rw [u]; simp);rw [u] at kp dP J;have uF := J 0 y rfl;simp only [List.length_cons, List.length_nil] at kp dP;have kp : vC wr x.b 3 (.slice (some ⟨xg, 0, none⟩) 1 xc) := kp;have eD : y ∈ x.kids := by rw [u]; simp
     rw[sp (i:=0) (x:=y) (by rw[u];rfl)]at hR;obtain⟨z1,F⟩:=zX (wr.alloc (.cells #[.pointer none] 71))
     have Ch:=lh F;have aL:=U.o;rw[<-F]at aL;have bw:=lh (bH.o.trans (MFr.of_below (M:=Mk) aL));have bZ:=lh (O.o.below aL);have ej:=lh (Y4 HE.o bw.o.size);obtain⟨i1,x1,c1,ey,i2⟩:=eo.o;refine Zuj ?_;intro i2 gM r3 dp bS aj;rw[<-dp]at bS aj hR;refine ZQ ?_;intro bC HR cD av;clear u J uF kp eD F aL i1 x1 c1 ey i2 gM dp aj hR jx f8;go_wp2_with fail
     rw[<-Ch.o];clear dk dg he;refine Aab ?_;apply WG (H:=Hx C w Mk z1 r3);·exact ZZ cD bS ej.o HO.o
     .exact Zw7 cD bS bZ ej.o HO.o
     intro W3 p2 M3 b3 k3 n3 t3 fg aX;have F3:=(MFr.of_below (M:=Mk) av.o).trans aX.1.2.1;have bE:=lh F3;have dq:=lh aX.1.1;have oO:=lh aX.2;obtain⟨s3,q3⟩:=r3;cases q3 with
     | error x3 =>
       exact XJ
     | ok v3 =>
       obtain⟨rfl,rfl⟩:v3=(b3,⟨k3,n3,t3⟩)∧fg=.nilIface:=aX.1.2.2;clear aX F3;cases b3
       .have dU:=lh (show R=vH D sc fr ((l.drop (k+1)).map (ATree.nt C.N)) (s3,.ok (E,⟨kk,nk,tk⟩))from HR.o);have qq:Fin s (d+2*(q-(k+1))) DQ (s3,.ok (E,⟨kk,nk,tk⟩)):=⟨bC.o.1,eo.o.2.1.trans bC.o.2.1,bC.o.2.2.1.trans eo.o.2.2.1,LVal.ok.mono (v:=⟨kk,nk,tk⟩) eo.o.2.2.2.1 bC.o.2.1.lo,bC.o.2.2.2.2⟩
        have mw:=lh qq;clear HR qq;go_wp2_with fail
        go_roundw
        case rel=>exact⟨k+1,M3,(s3,.ok (E,⟨kk,nk,tk⟩)),E,kk,nk,tk,by omega,by go_num,rfl,dq,lh (bH.o.trans bE.o),lh (pd.o.fr bE.o),lh ⟨rfl,rfl⟩,mw,dU⟩
        case measure=>simp[intOf];omega
       .exact XF
  .obtain rfl:k=q:=by omega
   have hR:R=rk:=by
    have:=dY.o;rwa[List.drop_eq_nil_of_le Rm]at this
   go_wp2_with fail
   obtain⟨b0,b1,b2,-,-,-⟩:=pd.o.six;obtain⟨q0,q1,q2,z0,z1,z2⟩:=(ar.o.fr bH.o).six;refine Zwf ?_;refine mA ?_;obtain⟨sk,qk⟩:=rk;subst hR;cases qk with
   | error x1 =>
     have he:ak C Mk wr x1 _:=qn.o;obtain⟨T1,P1,rfl,hP⟩:=he.ne;go_wp2;refine bodyPost_ret (v:=.tuple #[.bool E,.agg #[vI kk,vI nk,.string tk],.iface T1 (.pointer P1)]) ?_ rfl ?_;·simp[results,Tryz.results83,go_sem,q0,q1,q2]
     .exact .err ar.o bJ.o O.o.drew (bH.o.trans (.drew (.refl _ _))) he
   | ok v1 =>
     obtain⟨rfl,rfl⟩:=qn.o;go_wp2;refine bodyPost_ret (v:=.tuple #[.bool E,.agg #[vI kk,vI nk,.string tk],.nilIface]) ?_ rfl ?_;·simp[results,Tryz.results83,go_sem,q0,q1,q2]
     .exact .fine ar.o bJ.o O.o.drew (bH.o.trans (.drew (.refl _ _)))
end
structure Tbs(C:RCtx):Prop where
 ok:C.Ok
 pw:F9 C.w0
 wd:Words C.w0
 lv:B7 C.w0 C.w0.heap.size
 et:OK C.w0
theorem Zx8{t:Tree}(h:Wf .s [t])(hk:t.kind=12):2<=t.kids.length:=by
 cases h;case blk h=>exfalso;have:=(wk h).1;omega
 all_goals first
  |(exfalso;simp only[Tree.kind]at hk;omega)
  |simp[Tree.kids]
theorem Zqq{l:List NT}(h:Wf .vl (pL l)):∀y∈l,y.wf .v:=by
 induction l with
 |nil=>intro y g;cases g
 | cons z l m =>
   intro y g;obtain⟨o,p⟩:=Zgf (t:=z.tree) (l:=pL l) h;rcases List.mem_cons.1 g with rfl|g;·exact o
   .exact m p y g
theorem Zpp{l:List NT}(h:Wf .ol (pL l)):∀y∈l,∃o,y.kids=[o]∧o.wf .v:=by
 induction l with
 |nil=>intro y g;cases g
 | cons z l m =>
   intro y g;obtain⟨⟨-,-,x,p,u⟩,E⟩:=Zh0 (t:=z.tree) (l:=pL l) h;rcases List.mem_cons.1 g with rfl|g
   .obtain⟨o,F,rfl⟩:=Lt p;exact⟨o,F,u⟩
   .exact m E y g
section
variable {C:RCtx}{M M':MRep}{w w':World}{s s':MSt}{B:Nat}{a:ATree}{V:VF}{D:DF}{b:Int}{sc:Int}{fr:Frm}{d:Nat}
theorem ak0(h:(a.nt C.N).kids=[]):a.kids=[]:=by
 rw[Zq,yn]at h;exact List.map_eq_nil_iff.1 h
theorem XD{p:NT}{l:List NT}(h:(a.nt C.N).kids=p::l):∃x r,a.kids=x::r∧x.nt C.N=p∧r.map (ATree.nt C.N)=l:=by
 rw[Zq,yn]at h;obtain⟨x,r,g,m,o⟩:=List.map_eq_cons_iff.1 h;exact⟨x,r,g,m,o⟩
theorem Tf{p:NT}(h:(a.nt C.N).kids=[p]):∃x,a.kids=[x]∧x.nt C.N=p:=by
 obtain⟨x,r,g,m,o⟩:=XD h;rw[List.map_eq_nil_iff.1 o]at g;exact⟨x,g,m⟩
theorem ak2{p q:NT}(h:(a.nt C.N).kids=[p,q]):∃x y,a.kids=[x,y]∧x.nt C.N=p∧y.nt C.N=q:=by
 obtain⟨x,r,g,o,u⟩:=XD h;obtain⟨y,G,m,E,F⟩:=List.map_eq_cons_iff.1 u;rw[List.map_eq_nil_iff.1 F]at m;rw[m]at g;exact⟨x,y,g,o,E⟩
theorem ak3{p q r:NT}(h:(a.nt C.N).kids=[p,q,r]):∃x y z,a.kids=[x,y,z]∧x.nt C.N=p∧y.nt C.N=q∧z.nt C.N=r:=by
 obtain⟨x,l,g,o,u⟩:=XD h;obtain⟨y,O,E,F,G⟩:=List.map_eq_cons_iff.1 u;obtain⟨z,U,m,I,J⟩:=List.map_eq_cons_iff.1 G;rw[List.map_eq_nil_iff.1 J]at m;rw[E,m]at g;exact⟨x,y,z,g,o,F,I⟩
theorem wL{x:ATree}(hx:x∈a.kids)(g:(a.nt C.N).tree.many<=1500):(x.nt C.N).tree.many<=1500:=by
 have:=Ac (n:=a.nt C.N) (x:=x.nt C.N) P9;omega
theorem Zm1(g:(a.nt C.N).tree.many<=1500):a.kids.length<=1500:=by
 have:=Hv (n:=a.nt C.N);rw[Zq,yn,Ym]at this;omega
theorem Zlp(hI:Inv s d)(g:FAt s sc fr)(hs:s.steps<20000):Inv {s with steps:=s.steps+1} 20000∧FAt {s with steps:=s.steps+1} sc fr:=by
 have o:=hI.steps;obtain⟨m,i2⟩:=Inv.turn (k:=s.steps+1) (c:=s.calls) (v:=s.last) (d':=20000) hI O' O' hI.calls hI.last O';exact⟨m,g.ext i2⟩
theorem Zfa(T:Tbs C)(u:xH C V b)(y:VH V b)(h:MAt C M w s)(hI:Inv s (d+1))(E:FAt s sc fr)(hb:b<=s.steps)(hs:s.steps<=20000)(g:TreeAt w B a)(hf:a.free M)(wa:(a.nt C.N).wf .v)(F:(a.nt C.N).tree.many<=1500) :
 Calls Tryz.prog 130 #[vP C.mb,a.ptr,vI sc,.agg #[.bool fr.strict,vI fr.vars]] w λe w'=>al C M w (L2 V (a.nt C.N) sc fr s) e w':=by
 by_cases I:a.kind=23;·exact Zd8 h hI g hf I
 by_cases m:a.kind=36
 .obtain⟨-,x',J,O⟩:=RU wa (by rw[Z7,Zc];exact m);obtain⟨p,U,rfl⟩:=Lt J;obtain⟨o,ho,rfl⟩:=Tf U;exact Zg1 u y h hI E hb hs g hf m ho O (wL QF F)
 .exact Zc9 u y h hI E hb hs g hf I m wa F
theorem Zmq(T:Tbs C)(g:xH C V b)(m:VH V b)(h:MAt C M w s)(hI:Inv s (d+2))(u:FAt s sc fr)(hb:b<=s.steps)(hs:s.steps<=20000)(E:TreeAt w B a)(hf:a.free M)(hk:a.kind=24)(wa:(a.nt C.N).wf .v)(F:(a.nt C.N).tree.many<=1500) :
 Calls Tryz.prog 118 #[vP C.mb,a.ptr,vI sc,.agg #[.bool fr.strict,vI fr.vars]] w λe w'=>al C M w (t8 V (a.nt C.N) sc fr s) e w':=by
 obtain⟨x',y',U,X,Y,I⟩:=YW wa (by rw[Z7,Zc];exact hk);obtain⟨p,q,Z,rfl,rfl⟩:=SZ U;obtain⟨x,y,qi,rfl,rfl⟩:=ak2 Z;have J:=wL (C:=C) (x:=y) Rq F;have mx:=wL (C:=C) (x:=x) Rq F;rw[Z7,Zc]at X;by_cases O:x.kind=23;·exact Zk5 T.ok T.et g m h hI u hb hs E hf qi O I J
 .obtain⟨-,o',k2,k3⟩:=RU Y (by rw[Z7,Zc];omega);obtain⟨o1,g2,rfl⟩:=Lt k2;obtain⟨o,ho,rfl⟩:=Tf g2;exact Zoa g m h hI u hb hs E hf qi ho O k3 I (wL QF mx) J
theorem Zi0(T:Tbs C)(I:xH C V b)(J:VH V b)(cZ:Dl C D b)(hD:DH D b)(h:MAt C M w s)(hI:Inv s (d+17000))(O:FAt s sc fr)(hb:b<=s.steps)(hs:s.steps<=20000)(m:TreeAt w B a)(hf:a.free M)
 (hk:a.kind=32∨a.kind=33∨a.kind=34∨a.kind=35∨a.kind=36∨a.kind=38)(wa:(a.nt C.N).wf .v)(u:(a.nt C.N).tree.many<=1500) :
 Calls Tryz.prog 120 #[vP C.mb,a.ptr,vI sc,.agg #[.bool fr.strict,vI fr.vars]] w λe w'=>al C M w (xn V D (a.nt C.N) sc fr s) e w':=by
 by_cases y:a.kind=32∨a.kind=33∨a.kind=34
 .obtain⟨x',g,E⟩:=wv1 wa Q5 Q5;obtain⟨p,F,rfl⟩:=Lt g;obtain⟨o,ho,rfl⟩:=Tf F;have X:=wL (C:=C) (x:=o) QF u;rcases y with y|y|y;·exact Zwq I J h (d:=d) (hI.less O') O hb hs m hf y ho E X
  .exact Zlz I J h (d:=d) (hI.less O') O hb hs m hf y ho E X
  .have Y:o∈a.kids:=by rw[ho];simp
   exact Zjl h m hf y ho λW U=>Zfa T I J (h.below U) (d:=d) (hI.less O') O hb hs ((m.bel U).kid Y) (hf.kid Y) E X
 by_cases h5:a.kind=35
 .obtain⟨x',l',g,E,k3⟩:=Xp wa (by rw[Z7,Zc];exact h5);rw[Zw]at g;obtain⟨p,l1,F,rfl,rfl⟩:=SF g;obtain⟨x0,l,cB,rfl,rfl⟩:=XD F;have eV:∀k∈l,(k.nt C.N).wf .v∧(k.nt C.N).tree.many<=1500:=λk hk=>⟨Zqq k3 _ (List.mem_map.2 ⟨k,hk,rfl⟩),wL (by rw[cB];simp[hk]) u⟩;have hl:l.length<=1500:=by have :=Zm1 (C:=C) (a:=a) u;rw[cB,List.length_cons]at this;omega
  exact Zrv h m hf h5 λW U=>Zkm T.pw T.wd T.lv T.ok I J cZ hD (h.below U) hI O hb hs (m.bel U) hf cB E (wL PH u) hl eV
 by_cases Z:a.kind=36
 .obtain⟨-,x',g,E⟩:=RU wa (by rw[Z7,Zc];exact Z);obtain⟨p,F,rfl⟩:=Lt g;obtain⟨o,ho,rfl⟩:=Tf F;exact Zku I J h (d:=d) (hI.less O') O hb hs m hf Z ho E (wL QF u)
 .have h8:a.kind=38:=by omega
  have g:=WZ wa (by rw[Z7,Zc];exact h8);rw[Zw]at g;have hn:=Zm1 (C:=C) (a:=a) u;refine Zkz I J h (d:=d) (hI.less O') O hb hs m hf h8 hn λx hx=>?_;obtain⟨o',F,g2⟩:=Zpp g (x.nt C.N) P9;obtain⟨o,ho,rfl⟩:=Tf F;exact⟨o,ho,g2,wL QF (wL hx u)⟩
theorem Zj0(T:Tbs C)(J:xH C V b)(O:VH V b)(cZ:Dl C D b)(hD:DH D b):xH C (λn sc fr=>yk (x4 V D n sc fr)) (b-1):=by
 intro w M s a B sc fr d h hI X hb hs u E g hf;have bG:=Zjy u;rw[Z7,Zc]at bG;by_cases gW:s.steps=20000;·exact Zq6 T.ok h hI g hf gW
 have m:s.steps<20000:=O'
 have o:Inv s 0:=hI.less (Yh _);obtain⟨Y,U⟩:=Zlp hI X m;have Z:b<=s.steps+1:=O'
 have aG:s.steps+1<=20000:=O'
 by_cases k1:a.kind<=22;·exact Zrw h o g hf m O'
 by_cases k2:a.kind=23;·exact Zqf (d:=0) T.ok h o Pa g hf m k2
 by_cases k3:a.kind=24;·exact Zu1 (d:=0) h o Pa g hf m k3 λW M' F ht I=>Zmq T J O F (d:=0) (Y.less Pa) U Z aG ht I k3 u E
 by_cases k4:a.kind<=31
 .obtain⟨x',y',g1,wx,wy⟩:=wv2 u Q5 Q5;obtain⟨p,q,g2,rfl,rfl⟩:=SZ g1;obtain⟨x,y,qi,rfl,rfl⟩:=ak2 g2;have mx:=wL (C:=C) (x:=x) Rq E;have my:=wL (C:=C) (x:=y) Rq E;by_cases k5:a.kind=25∨a.kind=26;·exact Zxn (d:=0) J O h o Pa X O' m g hf qi wx wy mx my k5
  .exact Ztl (d:=0) T.pw J O h o Pa X O' m g hf qi wx wy mx my O'
 by_cases k6:a.kind=37
 .refine Ztn (d:=0) h o Pa g hf m k6 λW M' F ht I=>?_;exact XU (d:=0) T.ok F (Y.less Pa) ht I ⟨.inr ⟨by rw[Zc];exact k6,u⟩,E⟩ sc fr U.lo U.hi
 .exact Zp4 (d:=0) h o Pa g hf m O' λW M' F ht I=>Zi0 T J O cZ hD F (d:=0) (Y.less Pa) U Z aG ht I O' u E
theorem Zj9(T:Tbs C)(Y:xH C V b)(Z:VH V b)(O:Dl C D b)(hD:DH D b){f:Nat}(nf:20001-(f:Int)=b):Dl C (wI V D f) (b-1):=by
 intro w M s a B sc fr d h hI U hb hs J g m hf;have bG:=Zk2 J;rw[Z7,Zc]at bG;by_cases gW:s.steps=20000;·exact Zs1 T.ok h hI m hf gW
 have o:s.steps<20000:=O'
 have E:Inv s 0:=hI.less (Yh _);obtain⟨fS,kJ⟩:=Zlp hI U o;have ai:b<=s.steps+1:=O'
 have aG:s.steps+1<=20000:=O'
 by_cases k2:a.kind=2
 .obtain⟨-,h0|⟨x',X,F⟩⟩:=ws2 J (by rw[Z7,Zc];exact .inl k2);·exact Zfi h E o m hf (.inl ⟨ak0 (YF h0),.inl k2⟩)
  .obtain⟨p,I,rfl⟩:=Lt X;obtain⟨x,hx,rfl⟩:=Tf I;exact Zt5 (d:=0) T.et Y Z h E Pa U O' o m hf hx F (wL PC g) k2
 by_cases k3:a.kind=3∨a.kind=4
 .obtain⟨-,h0|⟨x',X,F⟩⟩:=ws2 J (by rw[Z7,Zc];exact .inr k3);·exact Zv7 h E o m hf (ak0 (YF h0)) k3
  .obtain⟨p,I,rfl⟩:=Lt X;obtain⟨x,hx,rfl⟩:=Tf I;exact WB (d:=0) Y O Z h E Pa U O' o m hf hx F (wL PC g) Pg (λy hy=>by cases hy) (k3.imp id .inl)
 by_cases k5:a.kind=5;·exact Zfi h E o m hf (.inr k5)
 by_cases k6:a.kind=6
 .refine Zp2 h E o m hf k6 λW M' hM ht ot=>?_;have hst:(a.nt C.N).stm:=by
   have:=(wk (Zgy J (by rw[Z7,Zc];exact k6))).2.1;rw[Zw]at this;exact this
  exact Zhr T.ok O hD hM (d:=0) (fS.less Pa) kJ ai aG ht ot hst g (by rw[SV,Tw]at g;exact g)
 by_cases k7:a.kind=7
 .obtain⟨x',y',F,wy,h2|⟨z',h3,wz⟩⟩:=ws7 J (by rw[Z7,Zc];exact k7)
  .obtain⟨p,q,I,rfl,rfl⟩:=SZ h2;obtain⟨x,y,hx,rfl,rfl⟩:=ak2 I;exact WB (d:=0) Y O Z h E Pa U O' o m hf hx F (wL PC g) Pg (λu hu=>by
    rw[List.mem_singleton]at hu;subst hu;exact⟨wy,wL PC g⟩) (.inr (.inr (.inl ⟨k7,by simp⟩)))
  .obtain⟨p,q,r,I,rfl,rfl,rfl⟩:=Zp6 h3;obtain⟨x,y,z,hx,rfl,rfl,rfl⟩:=ak3 I;exact WB (d:=0) Y O Z h E Pa U O' o m hf hx F (wL PC g) Pg (λu hu=>by
    simp only[List.mem_cons,List.not_mem_nil,or_false]at hu;rcases hu with rfl|rfl;·exact⟨wy,wL PC g⟩
    .exact⟨wz,wL PC g⟩) (.inr (.inr (.inl ⟨k7,by simp⟩)))
 by_cases k8:a.kind=8∨a.kind=9
 .obtain⟨x',y',h2,F,wy⟩:=ws8 J (by rw[Z7,Zc];exact k8);obtain⟨p,q,I,rfl,rfl⟩:=SZ h2;obtain⟨x,y,hx,rfl,rfl⟩:=ak2 I;have mx:=wL (C:=C) (x:=x) PC g;have my:=wL (C:=C) (x:=y) PC g;rcases k8 with k8|k9;·exact Znv (d:=0) Y O Z hD h E Pa U O' o m hf hx F mx wy my O' k8
  .exact WB (d:=0) Y O Z h E Pa U O' o m hf hx F mx Pg (λu hu=>by
    rw[List.mem_singleton]at hu;subst hu;exact⟨wy,my⟩) (.inr (.inr (.inr (.inl ⟨k9,rfl⟩))))
 by_cases jI:a.kind=10∨a.kind=11
 .rcases XV J (by rw[Z7,Zc];exact jI)with⟨h0,hk⟩|⟨x',X,F⟩
  .rw[Z7,Zc]at hk;exact Zpf h E o m hf (ak0 (YF h0)) hk
  .obtain⟨p,I,rfl⟩:=Lt X;obtain⟨x,hx,rfl⟩:=Tf I;exact WB (d:=0) Y O Z h E Pa U O' o m hf hx F (wL PC g) Pg (λy hy=>by cases hy) (.inr (.inr (.inr (.inr (jI.imp id .inl)))))
 by_cases GA:a.kind=12
 .refine Zvf h E o m hf GA λW M' hM ht ot=>?_;obtain⟨x',l',h1,h2,h3,h4⟩:=YZ J (by rw[Z7,Zc];exact GA);have h5:=Zx8 J (by rw[Z7,Zc];exact GA);rw[h1,List.length_cons]at h5;rw[Zw]at h1;obtain⟨p,l1,X,rfl,rfl⟩:=SF h1;obtain⟨x0,l,cB,rfl,rfl⟩:=XD X;rw[V2,Ym,Ym]at h3 h5;refine Zmw T.ok T.et O hD hM (d:=0) (fS.less Pa) kJ ai aG ht ot cB (Wf.blk h2) (wL PH g) h3 O' λk hk=>?_
  obtain⟨bG,c',k1,k2⟩:=h4 (k.nt C.N).tree (by rw[V2];exact List.mem_map.2 ⟨k.nt C.N,List.mem_map.2 ⟨k,hk,rfl⟩,rfl⟩);obtain⟨p2,k3,rfl⟩:=Lt k1;obtain⟨c,hc,rfl⟩:=Tf k3;rw[Z7,Zc]at bG;exact⟨bG.imp (λh=>h.1) id,c,hc,Wf.blk k2,wL (by rw[hc];simp) (wL (by rw[cB];simp[hk]) g)⟩
 by_cases Ca:a.kind=15
 .obtain⟨x',X,F⟩:=X7 J (by rw[Z7,Zc];exact Ca);obtain⟨p,I,rfl⟩:=Lt X;obtain⟨x,hx,rfl⟩:=Tf I;exact WB (d:=0) Y O Z h E Pa U O' o m hf hx F (wL PC g) Pg (λy hy=>by cases hy) (.inr (.inr (.inr (.inr (.inr (.inr Ca))))))
 .have Kt:a.kind=16:=by omega
  exact Zfi h E o m hf (.inl ⟨ak0 (YF (Aag J (by rw[Z7,Zc];exact Kt))),.inr Kt⟩)
theorem Zh3(T:Tbs C):∀f:Nat,xH C (R9 f).1 (20001-f)∧Dl C (R9 f).2 (20001-f)
 |0=>⟨λw M s a B sc fr d _ _ _ hb hs=>by simp at hb;omega,λw M s a B sc fr d _ _ _ hb hs=>by simp at hb;omega⟩
 | f + 1 => by
   obtain⟨g,m⟩:=Zh3 T f;obtain⟨o,p⟩:=Zc2 f;have e:(20001:Int)-((f+1:Nat):Int)=20001-(f:Int)-1:=O'
   rw[e];exact⟨Zj0 T g o m p,Zj9 T g o m p rfl⟩
end
section
variable {C:RCtx}{M M1:MRep}{w z W:World}{s:MSt}{B:Nat}{a:ATree}{d fb:Nat}{st:Bool}{A:Act}{K:Act->World->Prop}{Q:Exit->Act->World->Prop}
theorem Wj{w:World}{b i j k:Nat}{v x y:Value}(g:i≠k)(m:j≠k)(h:w.cell? ⟨b,k,none⟩=some v):((w.setCell ⟨b,i,none⟩ x).setCell ⟨b,j,none⟩ y).cell? ⟨b,k,none⟩=some v:=
 (World.cell?_setCell_other _ _ _ _ (λe=>m (Addr.mk.inj e).2.1)).trans ((World.cell?_setCell_other _ _ _ _ (λe=>g (Addr.mk.inj e).2.1)).trans h)
theorem Zj2:fa [1,1,1,1,1,1,1,1,1,1,1,1,1]=Code.seq (fa [1,1,1,1,1,1,1,1,1,1,1,1,1,0]) (Code.seq (fa [1,1,1,1,1,1,1,1,1,1,1,1,1,1,0]) (Code.seq (fa [1,1,1,1,1,1,1,1,1,1,1,1,1,1,1,0]) (fa [1,1,1,1,1,1,1,1,1,1,1,1,1,1,1,1]))):=by kernel_rfl
theorem Zup(T:Tbs C)(hM:MAt C M1 W s)(hF:MFr M M1 z W)(hO:C.w0.heap.size<=z.heap.size)(ha:TreeAt W B a)(hf:a.free M1)(hst:(a.nt C.N).stm)(hm:(a.nt C.N).tree.many<=1500)(hI:Inv s 0)(hA:FAt s 1 ⟨st,0⟩)(gW:s.steps=0)(mX:s.top=1)(lf:Lo C M1 z W fb #[.bool st,vI 0] 63)
 (cE:Below w.heap.size w C.w0)(xS:w.heap.size<C.w0.heap.size)(mS:C.w0.heap[w.heap.size]?=some (.cells #[.slice none 0 0,vI 0,.string ⟨#[]⟩,vI 0,.slice none 0 0] 29 (0,0)))(fr:FrA 201 (K' C w a [(6,vP fb)]) [] A)
 (hR:∀y a' w',(results Tryz.f6 a'.tmps).run Tryz.prog w'=.ok y w'->a'.defers=[]->U4 w (T0 (p' (R9 T4).2 1 ⟨st,0⟩ (a.nt C.N).kids s)) y w'->Q .ret a' w')(hQ:∀c a d v w,Q (.panic c) (Act.put a d v) w->Q (.panic c) a w) :
 (fa [1,1,1,1,1,1,1,1,1,1,1,1,1]).wp Tryz.prog Q A W:=by
 obtain⟨r,hr⟩:=zX (p' (R9 T4).2 1 ⟨st,0⟩ (a.nt C.N).kids s)
 rw[<-hr]at hR;have an:=TG hst hm;have cZ:=(Zh3 T T4).2;have hD:=(Zc2 T4).2;have hb:(20001:Int)-(T4:Int)<=s.steps:=by rw[gW];show(20001:Int)-((20001:Nat):Int)<=0;decide
 have hs:s.steps<=20000:=O'
 have aj:=Vj hD (a.nt C.N).kids s an hI hA hb hs;rw[<-hr]at aj;have hn:=Zm1 (C:=C) (a:=a) hm;have bG:∀y∈a.kids,(y.nt C.N).wf .s∧(y.nt C.N).tree.many<=1500:=λy hy=>an (y.nt C.N) Qa;rw[Zq,yn]at hr;obtain⟨pb,cb,co,cr,eu,dc⟩:=jm.slice ha.rowOf;obtain⟨qb,mu⟩:=zX a.kids.length
 rw[<-mu]at co
 have HC:=lh (show∀m,Below W.heap.size W m->Calls Tryz.prog 22 #[vP C.mb,.slice pb qb cb,vI 1,.agg #[.bool st,vI 0]] m λe w'=>∃M' b k n t ev,e=.returned (.tuple #[.bool b,ag k n t,ev])∧mc C M1 m r w' M' b k n t ev from
  λm hB=>by
   have h:=Calls.dres (ZB (fr:=⟨st,0⟩) cZ hD (hM.below hB) hI hA hb hs (ha.bel hB) hf hn bG);rw[co,<-hr]at h;exact h)
 have J:=lh (show∀m M' s',MAt C M' m s'->(s'=s∨s'=r.1)->MFr M1 M' W m->vC m a.b 3 (.slice pb qb cb)∧vC m C.mb 12 (vI 1)∧vC m fb 0 (.bool st)∧vC m fb 1 (vI 0)from
  λm M' s' rS dZ f=>⟨by have:=(f.tree ha hf).1.c3;rwa[co]at this,by
   have xh:=rS.gl.2.2;rcases dZ with rfl|rfl;·rwa[mX]at xh
   .rwa[aj.2.1.top,mX]at xh,(lf.fr f).cell rfl,(lf.fr f).cell rfl⟩)
 have bR:=lh aj;have HM:=lh hM;have HF:=lh hF;have HE:=lh hF.size;have HO:=lh hO;have HT:=lh T;have jL:=lh cE;have GB:=lh xS;have wQ:=lh mS;have eR:=lh hR;have ga:=lh (show∀(K:Act->World->Prop) c a d v w,(Exit.then K Q) (.panic c) (Act.put a d v) w->(Exit.then K Q) (.panic c) a w from λK c a d v w h=>hQ c a d v w h);unfold K' at fr;obtain⟨xt,rfl,e0,e2,e5,e6,-⟩:=Wo fr;rw[e0,e2,e5,e6];clear e0 e2 e5 e6 fr;clear T hM hF hO ha hf hst hm hI hA gW mX lf cE xS mS hR hQ hr an cZ hD hb hs aj hn bG co cr eu dc mu;rw[Zj2]
 refine dh ?_;intro K HK
 refine Z1y (.take 0 (.take 1 (.take 2 (.take 3 (.take 4 (.take 5 (.take 6 (.take 7 (.take 8 (.take 9 (.two 10 (.take 11 (.take 12 (.take 13 (.take 14 (.go 15 (.go 16 (.go 17 (.go 18 (.nil))))))))) 15 (.go 10 (.take 11 (.take 12 (.take 13 (.take 14 (.go 16 (.go 17 (.go 18 (.nil)))))))))))))))))))) 17 (λW=>vC W a.b 3 (.slice pb qb cb)∧vC W C.mb 12 (vI 1)∧vC W fb 0 (.bool st)∧vC W fb 1 (vI 0)) Pb Pb (λc a d v w h=>ga.o _ c a d v w h) (J.o _ _ _ HM.o.drew (.inl rfl) (MFr.drew (.refl _ _))) ?_
 iterate 10
  first
   |(refine X4 ?_ Po Po (λw'=>?_) ?_;rotate_left;(go_simp;first|done|with_reducible rfl);simp only[Act.put,zA,zB,zC])
   |(refine Z7g ?_ Po Pb Po (λw' lS=>?_) ?_;rotate_left;(obtain⟨s0,s1,s2,s3⟩:=lS;go_simp;first|done|with_reducible rfl);simp only[Act.put,zA,zB,zC])
 refine Zt ?_;apply WG (H:=Hx C z M1 W r)
 .intro ci;refine mH (λK hK=>?_);refine(HC.o _ (Ze _)).mono ?_;rintro e w1⟨M1,b,k,n,t,ev,rfl,hr⟩;have bA:=hr.pre (Ze _);refine hK _ _ (J.o _ _ _ bA.1 (.inr rfl) bA.2.1) ?_;have gA:=lh bA;clear bA hr hK K;refine Ztb ?_;intro K hK;refine hK _ _ (J.o _ _ _ (gA.o.1.below (Z1 _ _)) (.inr rfl) (gA.o.2.1.trans (.of_below (Z1 _ _)))) ?_;clear hK K;try simp only[Act.put,zA,zB,zC]
  refine mH (λK hK=>?_);refine hK _ _ (J.o _ _ _ (gA.o.1.below (Z1 _ _)) (.inr rfl) (gA.o.2.1.trans (.of_below (Z1 _ _)))) ?_;clear hK K;try simp only[Act.put,zA,zB,zC]
  refine mA ?_;have u:=gA.o.boxA (wE:=z) HE.o HO.o;unfold vO at u;generalize w1.alloc (.cells #[vI k,vI n,.string t] 55)=W2 at u ⊢;generalize w1.heap.size=p at u ⊢;exact ci.o W2 p M1 b k n t ev u
 .intro ci;refine mH (λK hK=>?_);refine hK _ _ (J.o _ _ _ (HM.o.below (Z1 _ _)).drew (.inl rfl) (.drew (.of_below (Z1 _ _)))) ?_;clear hK K;try simp only[Act.put,zA,zB,zC]
  refine mH (λK hK=>?_);refine(HC.o _ (Z1 _ _).drew).mono ?_;rintro e w1⟨M1,b,k,n,t,ev,rfl,hr⟩;refine hK _ _ (J.o _ _ _ hr.1 (.inr rfl) ((MFr.of_below (Z1 _ _).drew).trans hr.2.1)) ?_;obtain⟨q0,q1,q2,z0,z1,z2⟩:=(mc.lo (wE:=z) hr HM.o HE.o HO.o).six;have u:=mc.boxB (wE:=z) hr HM.o HE.o HO.o;have cJ:=lh (J.o _ _ _ hr.1 (.inr rfl) ((MFr.of_below (Z1 _ _).drew).trans hr.2.1));have fK:=lh u;clear hr hK K u;refine Ztb ?_;intro K hK;refine hK _ _ cJ.o ?_;clear hK K;try simp only[Act.put,zA,zB,zC]
  refine mA ?_;clear q0 q1 q2 z0 z1 z2;have u:=fK.o;clear fK;generalize((w1.setCell ⟨W.heap.size,0,none⟩ (vI k)).setCell ⟨W.heap.size,1,none⟩ (vI n)).setCell ⟨W.heap.size,2,none⟩ (.string t)=W2 at u ⊢;generalize W.heap.size=p at u ⊢;exact ci.o W2 p M1 b k n t ev u
 intro W1 p1 M2 b1 k1 n1 t1 bU O;refine HK.o _ _ ?_;clear HK K;refine dh ?_;intro K HK;go_wp2_with fail
 refine HK.o _ _ ?_;clear HK K;have bZ:=lh O.1.1;have bw:=lh O.1.2.1;have au:=Z1 W1 (.cells #[.pointer none] 71);have di:=Lo.new (wE:=z) O.1.1 (Y4 HE.o O.1.2.1.size) HO.o #[.pointer none] 71;obtain⟨p,uy⟩:=zX W1.heap.size
 rw[<-uy]at di ⊢;obtain⟨W2,gQ⟩:=zX (W1.alloc (.cells #[.pointer none] 71))
 rw[<-gQ]at au di ⊢;have bW:=lh (O.1.1.below au);have Y:=lh di;have dg:vC W2 0 0 (oj C.eb):=((O.1.1.below au).old.cell HT.o.ok.stopB).trans HT.o.ok.stop;have GC:=O.1.2.2;obtain⟨s9,q9⟩:=r;have aO:=lh au;clear O gQ au di HC J HM HE;cases q9 with
 | ok v9 =>
   obtain⟨-,rfl⟩:=GC;refine Zvc ?_;intro c3 c4 c5 c2 c6 y3 C2 C4 C5 C6 C3;have Z:=Zp9 C.eb W2;unfold oj at dg Z;clear c2 c4 c5 c6 uy;refine dh ?_;intro K HK;go_wp2_with fail
   refine(Zlx _ _).mono ?_;rintro e W3⟨rfl,xU⟩;rw[xU];clear xU W3;go_wp2_with fail
   refine HK.o _ _ ?_;clear HK K
   refine Zk6 jL.o GB.o bW.o (code:=1) (val:=⟨#[]⟩) (λk hk=>Y8 _ _ _ _ hk) PF ⟨rfl,rfl,rfl⟩ ((World.cell?_setCell_other _ _ _ _ Pm).trans C2.o) (World.cell?_setCell_same _ _ _ C3.o) ((World.cell?_setCell_other _ _ _ _ Pm).trans C4.o) ((World.cell?_setCell_other _ _ _ _ Pm).trans C5.o) ((World.cell?_setCell_other _ _ _ _ Pm).trans C6.o) wQ.o ⟨rfl,⟨rfl,rfl,rfl,trivial⟩,rfl⟩ (λy a' w' F I E=>eR.o y a' w' F I E)
 | error x9 =>
   cases x9 with
   | stop =>
     have gX:bU=oj C.eb:=GC;refine Zvc ?_;intro c3 c4 c5 c2 c6 y3 C2 C4 C5 C6 C3;have Z:=Zk7 C.eb W2;subst gX;unfold oj at dg Z ⊢;clear c2 c4 c5 c6 uy;refine dh ?_;intro K HK;go_wp2_with fail
     refine HK.o _ _ ?_;clear HK K
     refine Zk6 jL.o GB.o bW.o (code:=3) (val:=⟨#[]⟩) (λk hk=>Y8 _ _ _ _ hk) PF ⟨rfl,rfl,rfl⟩ ((World.cell?_setCell_other _ _ _ _ Pm).trans C2.o) (World.cell?_setCell_same _ _ _ C3.o) ((World.cell?_setCell_other _ _ _ _ Pm).trans C4.o) ((World.cell?_setCell_other _ _ _ _ Pm).trans C5.o) ((World.cell?_setCell_other _ _ _ _ Pm).trans C6.o) wQ.o ⟨rfl,⟨rfl,rfl,rfl,trivial⟩,rfl⟩ (λy a' w' F I E=>eR.o y a' w' F I E)
   | thr v0 =>
     obtain⟨g,gX,gU,tY⟩:=GC;have cY:g<W1.heap.size:=(Y1.1 gU).1;have vm:g≠C.mb:=λe=>tY (e▸bZ.o.mbHas);have Ku:g≠p:=by rw[uy];omega
     have lF:p<W2.heap.size:=(Y1.1 Y.o.blk).1;have Z:=Zp5 C.eb g W2;subst gX;unfold oj at dg;unfold oj qy at Z;unfold qy;obtain⟨i1,-,-,ey,-⟩:=bR.o;obtain⟨vk,vn,vt⟩:=v0;obtain⟨z2,aI,wO⟩:∃z2,Below W2.heap.size W2 z2∧Calls Tryz.prog 23 #[.iface 71 (vP g),.iface 73 (vP p)] W2 λev w'=>ev=.returned (.bool true)∧w'=z2.setCell ⟨p,0,none⟩ (vP g):=by
      refine⟨_,?_,Zdi ⟨g,0,none⟩ ⟨p,0,none⟩ (.pointer none) W2 (HT.o.et.below bW.o.old) (Y.o.cell rfl) (Y.o.fz 0)⟩;have A:∀{W:World} (o:Obj),Below W2.heap.size W2 W->Below W2.heap.size W2 (W.alloc o):=λo h=>h.alloc h.size o;exact A _ (A _ (A _ (Z1 _ _)))
     obtain⟨od,-,wP⟩:=(Y.o.bel aI).put (bW.o.below aI) ((HF.o.trans bw.o).trans (.of_below (aO.o.trans (aI.mono aO.o.size)))) Pa Pa 0 (vP g);have lA:(z2.setCell ⟨p,0,none⟩ (vP g)).heap[g]?=some (lD ⟨vk,vn,vt⟩):=(Y8 _ _ _ _ Ku).trans (((aO.o.trans (aI.mono aO.o.size)).block g cY).trans gU);obtain⟨z3,yc⟩:=zX (z2.setCell ⟨p,0,none⟩ (vP g))
     rw[<-yc]at wO od wP lA;have qF:g<z3.heap.size:=(Y1.1 lA).1;have nq:=λ(m:World) (hW:Below z3.heap.size z3 m)=>Znm HT.o.pw (od.below hW) i1 ⟨vk,vn,vt⟩ ey;obtain⟨tx,bg⟩:=zX (s9.H.shown ⟨vk,vn,vt⟩)
     have eR:=lh (show∀y a' w',(results Tryz.f6 a'.tmps).run Tryz.prog w'=.ok y w'->a'.defers=[]->U4 w ⟨s9.log,2,tx,s9.steps,s9.seen⟩ y w'->Q .ret a' w' from λy a' w' F I E=>eR.o y a' w' F I (by rw[bg]at E;exact E));rw[<-bg]at nq;simp only[LVal.agg]at nq;have Gq:=lh nq;have dq:=lh od;have sF:=lh wO
     have HY:=lh (show∀m,Below z3.heap.size z3 m->vC m p 0 (vP g)∧vC m g 0 (vI vk)∧vC m g 1 (vI vn)∧vC m g 2 (.string vt)from
      λm f=>have hw:=(f.block g qF).trans lA;⟨(wP.bel f).cell rfl,by simp[vC,World.cell?,hw,lD,LVal.arr],by simp[vC,World.cell?,hw,lD,LVal.arr],by simp[vC,World.cell?,hw,lD,LVal.arr]⟩)
     have tv:=lh (And.intro vm (show p≠C.mb from λe=>Y.o.free (e▸bW.o.mbHas)));clear cY vm Ku lF i1 ey aI wO od wP lA yc qF nq bg gU tY bR bZ bw HF aO HO Y uy;refine dh ?_;intro K HK;go_wp2_with fail
     refine sF.o.mono ?_;rintro e W3⟨rfl,rfl⟩;clear dg Z sF;go_wp2_with fail
     refine Za [(true,0),(true,1),(true,2),(true,3),(true,4),(true,5),(true,6),(true,7),(true,8),(false,9),(true,10),(true,11),(true,12),(false,13)] [14,15,16,17] (λW=>vC W p 0 (vP g)∧vC W g 0 (vI vk)∧vC W g 1 (vI vn)∧vC W g 2 (.string vt)) Pb Pb (λc a d v w h=>ga.o K c a d v w h) (HY.o _ (Ze _)) (λbu=>?_);refine ep ?_;refine Z6 (λK hK=>?_);go_simp
     refine(Gq.o _ (Ze _)).mono ?_;rintro e W4⟨rfl,eQ⟩;have eQ:=(Ze W3).trans (eQ.mono (Y0 _));refine hK _ _ (HY.o _ eQ) ?_;clear hK K;have U:=lh (dq.o.below eQ);have NK:=lh (HY.o _ eQ);clear eQ;refine ep ?_;have c3:=U.o.cell 3 (vI 0) Pl;have c4:=U.o.cell 4 (.string ⟨#[]⟩) Pl;have c5:=U.o.cell 5 (vI s9.steps) Pl;have c2:=U.o.rcell 0 Pa;have c6:=U.o.rcell 1 Pa;have y3:=U.o.fz 3;have y4:=U.o.fz 4;have C2:=lh c2;have C4:=lh c4
     have C5:=lh c5;have C6:=lh c6;have C3:=lh c3;clear c2 c5 c6;refine Z6 (λK hK=>?_);go_simp
     refine hK _ _ ?_ ?_
     .obtain⟨g0,F,I,E⟩:=NK.o;refine⟨?_,?_,?_,?_⟩;·exact(World.cell?_setCell_other _ _ _ _ Pm).trans g0
      .exact(World.cell?_setCell_other _ _ _ _ Pm).trans F
      .exact(World.cell?_setCell_other _ _ _ _ Pm).trans I
      .exact(World.cell?_setCell_other _ _ _ _ Pm).trans E
     clear hK K;refine Z0 ?_;go_wp2_with fail
     refine HK.o _ _ ?_;clear HK K
     refine Zk6 jL.o GB.o U.o (code:=2) (val:=tx) (λk hk=>(Y8 _ _ _ _ hk).trans (Y8 _ _ _ _ hk)) PF ⟨rfl,rfl,rfl⟩ (Wj Pa Pa C2.o) ((World.cell?_setCell_other _ _ _ _ Pm).trans (World.cell?_setCell_same _ _ _ C3.o)) (World.cell?_setCell_same _ _ _ ((World.cell?_setCell_other _ _ _ _ Pm).trans C4.o)) (Wj Pa Pa C5.o) (Wj Pa Pa C6.o) wQ.o ⟨rfl,⟨rfl,rfl,rfl,trivial⟩,rfl⟩ (λy a' w' F I E=>eR.o y a' w' F I E)
end
structure RunW(w:World)(eb:Addr):Prop where
 stop:vC w 0 0 (oj eb)
 pw:F9 w
 wd:Words w
 lv:B7 w w.heap.size
 et:OK w
theorem RunW.lt{w:World}{eb:Addr}(h:RunW w eb):0<w.heap.size:=by
 rcases Nat.lt_or_ge 0 w.heap.size with g|g;·exact g
 .have:=h.stop;simp[vC,World.cell?,Array.getElem?_eq_none g]at this
theorem RunW.bel{w w':World}{eb:Addr}(h:RunW w eb)(g:Below w.heap.size w w'):RunW w' eb:=
 ⟨(g.cell (p:=⟨0,0,none⟩) h.lt).trans h.stop,h.pw.below g,h.wd.below g,B7.mono (h.lv.keep λk hk=>g.block k hk) g.size,h.et.below g⟩
def B6(a:ATree)(b:Nat):Int:=match(uR lw a []).find? (λx=>x.1==b)with|some x=>x.2|none=>-3
def ZI(w:World)(a:ATree)(e:Ending)(w':World):Prop:=∃y,e=.returned y∧if LW a false false=0 then U4 w (ow (a.nt (B6 a))) y w' else y=.tuple #[.agg #[.slice none 0 0,vI 0,.string ⟨#[]⟩,vI 0,.slice none 0 0],df (LW a false false)]∧Below w.heap.size w w'
theorem Zxk{w:World}{B:Nat}:∀{a:ATree},TreeAt w B a->∀x∈a.subs,rA w x.b:=by
 intro a h;induction h with
 | @mk b v k t n ks blk le row hk m =>
   intro x hx;have g:∀l:List ATree,(∀y∈l,y∈ks)->x∈ox l->rA w x.b:=by
    intro l;induction l with
    |nil=>intro _ h;simp[ox]at h
    | cons y l o =>
      intro hl h;simp only[ox,List.mem_append]at h;rcases h with h|h;·exact m y (hl y (List.mem_cons_self ..)) x h
      .exact o (λz p=>hl z (List.mem_cons_of_mem _ p)) h
   simp only[ATree.subs,List.mem_cons]at hx;rcases hx with rfl|hx;·exact⟨_,_,blk⟩
   .exact g ks (λ_ h=>h) hx
theorem Zsb{w:World}{eb:Addr}{B nb mb:Nat}{a:ATree}(h:RunW w eb)(g:TreeAt w B a)(m:(a.subs.map (·.b)).Nodup)(o:mI w nb (uR lw a [])):Tbs ⟨w,mb,nb,eb,uR lw a []⟩:=by
 have hk:=Zc5 a [];simp only[List.map_nil,List.nil_append]at hk;refine⟨⟨h.stop,h.lt,o,?_,by show((uR lw a []).map (·.1)).Nodup;rw[hk];exact m⟩,h.pw,h.wd,h.lv,h.et⟩;intro x hx;have:x.1∈a.subs.map (·.b):=by rw[<-hk];exact List.mem_map.2 ⟨x,hx,rfl⟩
 obtain⟨y,p,e⟩:=List.mem_map.1 this;rw[<-e];exact Zxk g y p
theorem Zre{n:NT}(hst:n.stm)(J:n.tree.many<=1500){m:MSt}(E:m=n.vars.foldl Oe zg) :
 Inv zg (19993-1500+n.vars.length)∧Inv m (16000+n.kids.length)∧m.top=1∧Inv (m.lets n.lets 1) (6*n.funcs.length)∧(m.lets n.lets 1).glob=0∧(m.lets n.lets 1).top=1∧1<(m.lets n.lets 1).H.scopes.length∧SD n=(m.lets n.lets 1).funcs (λs _=>s) (λs t v=>s.put 0 t v true) n.funcs 1 ⟨n.strict,0⟩∧(SD n).top=1:=by
 have hq:=Hv (n:=n);have Z:=VI (n:=n);have l2:=UW (n:=n);have l3:=VP (n:=n);obtain⟨F,a2,-,-⟩:=Zbe (s:=Se);obtain⟨y,i2⟩:=V0 Oe 1 zg (λ_=>True) (λs d b _ _ h=>Zde h) n.vars zg 18000 (λ_ _=>trivial) (Ext.refl _) (F.less O');rw[<-E]at y i2;obtain⟨I,O⟩:=TC (l:=n.lets) (sc:=1) (d:=16000) (y.less O');have o:=i2.trans O;have e:SD n=(m.lets n.lets 1).funcs (λs _=>s) (λs t v=>s.put 0 t v true) n.funcs 1 ⟨n.strict,0⟩:=by rw[E];rfl
 have U:(1:Int)<(m.lets n.lets 1).H.scopes.length:=by have h5:(1:Int)<zg.H.scopes.length:=a2.hi;have:=o.ls;omega
 obtain⟨k1,X⟩:=X1 (p:=λs _=>s) (g:=λs t v=>s.put 0 t v true) (d:=0) (l:=n.funcs) (sc:=1) (fr:=⟨n.strict,0⟩) (I.less O') (TK hst J) Pa U
  (λu e x _ hi=>⟨hi.less O',Ext.refl _⟩) (λu e x v _ hi Y=>zq hi Y)
 exact⟨F.less O',y.less O',i2.top,I.less O',o.glob,o.top,by omega,e,by rw[e];exact X.top.trans o.top⟩
theorem Zki:fa []=Code.seq (fa [0]) (Code.seq (fa [1,0]) (Code.seq (fa [1,1,0]) (Code.seq (fa [1,1,1,0]) (fa [1,1,1,1])))):=by kernel_rfl
theorem Zi6:fa [1,1,1,1,1,1,1,1,1,1]=Code.seq (fa [1,1,1,1,1,1,1,1,1,1,0]) (Code.seq (fa [1,1,1,1,1,1,1,1,1,1,1,0]) (Code.seq (fa [1,1,1,1,1,1,1,1,1,1,1,1,0]) (fa [1,1,1,1,1,1,1,1,1,1,1,1,1]))):=by kernel_rfl
section
variable {C:RCtx}{M M1:MRep}{w z W:World}{s:MSt}{B:Nat}{a:ATree}{A:Act}{Q:Exit->Act->World->Prop}
theorem Zwk(T:Tbs C)(U:MAt C M z MSt.new)(X:TreeAt z B a)(hf:a.free M)(hst:(a.nt C.N).stm)(o:(a.nt C.N).tree.many<=1500)
 (cE:Below w.heap.size w C.w0)(xS:w.heap.size<C.w0.heap.size)(mS:C.w0.heap[w.heap.size]?=some (.cells #[.slice none 0 0,vI 0,.string ⟨#[]⟩,vI 0,.slice none 0 0] 29 (0,0)))(fr:FrA 201 (K' C w a []) [] A)
 (hR:∀y a' w',(results Tryz.f6 a'.tmps).run Tryz.prog w'=.ok y w'->a'.defers=[]->U4 w (ow (a.nt C.N)) y w'->Q .ret a' w')(p:∀c a d v w,Q (.panic c) (Act.put a d v) w->Q (.panic c) a w) :
 (fa [1,1,1,1]).wp Tryz.prog Q A z:=by
 obtain⟨n,hn⟩:=zX (a.nt C.N)
 obtain⟨s3,Y⟩:=zX (n.vars.foldl Oe zg)
 have F:=hst;have I:=o;rw[<-hn]at F I;obtain⟨m1,m2,m3,m4,m5,m6,m7,m8,m9⟩:=Zre F I Y;obtain⟨n1,Z,n3,n4⟩:=Zeh F I;have J:n.strict=Zj a:=by rw[hn];exact ZJ
 have dA:n.vars=yw a:=by rw[hn];exact Tz
 have ba:a.kids.length=n.kids.length:=by rw[hn,Zq,yn,Ym]
 have nE:a.many<=1500:=by rw[SV,Tw]at o;exact o
 have sW:a.kids.length<=1500:=by have:=Hv (n:=n);omega
 have hz:=U.old.size;refine Zo3 U X hf fr (λA1 W1 M1 fb NL ef dm Kv=>?_) p;rw[Zi6];have m:∀{M':MRep} {W':World},MFr M1 M' W1 W'->TreeAt W' B a∧a.free M':=λf=>(dm.trans f).tree X hf;refine wp_seq_k (λK g=>?_);refine Zqm (d:=18000) (s:=zg) ef rfl rfl (m (.refl _ _)).1 nE (m1.less (by rw[<-dA];have:=VI (n:=n);omega)) NL (λA2 W2 M2 Bg aQ O=>g _ _ ?_) (λc a d v w h=>p c a d v w h);clear g K;rw[<-hn,<-Y]at aQ;refine wp_seq_k (λK g=>?_)
 refine Zrf (d:=16000) aQ m3 (m O).1 (m O).2 sW (m2.less O') Bg (λA3 W3 M3 uf dL bq=>g _ _ ?_);clear g K;rw[<-hn]at dL;have u:=O.trans bq;refine wp_seq_k (λK g=>?_);refine Zn4 (d:=0) (st:=Zj a) T.ok dL m5 m6 (m u).1 (m u).2 ⟨hst,o⟩ sW (Kv.fr u) (m4.less (by rw[<-hn];omega)) m7 uf (λA4 W4 M4 ug fN bh=>g _ _ ?_) (λc a d v w h=>p c a d v w h);clear g K;rw[<-hn,<-J,<-m8]at fN;have E:=u.trans bh;rw[J]at Z
 refine Zup (st:=Zj a) T fN (dm.trans E) hz (m E).1 (m E).2 hst o n1 Z n3 m9 (Kv.fr E) cE xS mS ug (λy a' w' g1 g2 g3=>hR y a' w' g1 g2 ?_) p;rw[<-hn]at g3 ⊢;unfold ow;rw[J];exact g3
end
theorem Zpn(w:World)(B:Nat)(a:ATree)(eb:Addr)(hW:RunW w eb)(p:TreeAt w B a)(hA:WA a)(O:(a.subs.map (·.b)).Nodup)(hst:Wf .sl a.tree.kids)(hm:a.many<=1500) :
 Calls Tryz.prog 6 #[a.ptr] w (ZI w a):=by
 obtain⟨o,u⟩:=zX (w.alloc (.cells #[.slice none 0 0,vI 0,.string ⟨#[]⟩,vI 0,.slice none 0 0] 29))
 have U:Below w.heap.size w o:=by rw[u];exact Z1 _ _
 have X:o.heap[w.heap.size]?=some (.cells #[.slice none 0 0,vI 0,.string ⟨#[]⟩,vI 0,.slice none 0 0] 29 (0,0)):=by rw[u];exact heap_alloc_new _ _
 have ku:w.heap.size<o.heap.size:=(Y1.1 X).1;have E:=Zb4 o B a false false (p.bel U) hA O';have hnu:=λ(W:World) (hB:Below w.heap.size w W)=>Zht W B a (p.bel hB) O;simp only[ATree.ptr]at E hnu;obtain⟨c,hc⟩:=zX (LW a false false)
 have Bv:=lh (show∀e w',(∃y,e=.returned y∧if c=0 then U4 w (ow (a.nt (B6 a))) y w' else y=.tuple #[.agg #[.slice none 0 0,vI 0,.string ⟨#[]⟩,vI 0,.slice none 0 0],df c]∧Below w.heap.size w w')->ZI w a e w' from λe w' h=>by unfold ZI;rw[<-hc];exact h);rw[<-hc]at E;have Ge:=lh E;have NM:=lh hnu;have HW:=lh hW;have HT:=lh p;have NN:=lh O;have iu:=lh hst;have HM:=lh hm;have HZ:=lh u;have g:=lh U;have bF:=lh X;have j7:=lh ku;refine calls_of_wp (c:=fa []) Tryz.func6 Zr8 ?_
 simp only[Tryz.ntmps6,ATree.ptr,List.size_toArray,List.length_cons,List.length_nil,Nat.reduceAdd,Nat.reduceSub,Array.replicate_succ,Array.replicate_zero,List.push_toArray,List.append_toArray,List.nil_append,List.cons_append];clear E hnu hW p O hst hm u U X ku hc hA;rw[Zki];refine dh ?_;intro K HK;go_wp2_with fail
 rw[<-HZ.o];refine HK.o _ _ ?_;clear HK K;refine dh ?_;intro K HK;go_wp2_with fail
 refine HK.o _ _ ?_;clear HK K;refine dh ?_;intro K HK;go_wp2_with fail
 refine Ge.o.mono ?_;rintro e w2⟨rfl,Y⟩;have F:=lh Y;have I:w2.heap[w.heap.size]?=some (.cells #[.slice none 0 0,vI 0,.string ⟨#[]⟩,vI 0,.slice none 0 0] 29 (0,0)):=(Y.block _ j7.o).trans bF.o;have Z:=lh I;clear Y I;by_cases m:c=0
 .have J:=lh m;rw[show df c= .nilIface from Y5 m];clear m;go_wp2_with fail
  refine HK.o _ _ ?_;clear HK K;refine dh ?_;intro K HK;go_wp2_with fail
  refine(NM.o w2 (g.o.trans (F.o.mono g.o.size))).mono ?_;rintro e w3⟨nb,rfl,hP,aB,dw⟩;have HP:=lh hP;have bP:=lh aB;clear hP aB dw;go_wp2_with fail
  refine HK.o _ _ ?_;clear HK K;have ai:=g.o.trans (F.o.mono g.o.size);have aX:=ai.trans (bP.o.mono ai.size);obtain⟨M,hM⟩:=Zwj w3 nb eb (uR lw a []);have mr:=HT.o.bel aX;refine Zwk (w:=w) (B:=B) (a:=a) (Zsb (mb:=w3.heap.size) (HW.o.bel aX) mr NN.o HP.o) hM (mr.bel (Z1 _ _)) (λk hk=>?_) ?_ ?_ aX ?_ ?_ ⟨rfl,⟨rfl,rfl,rfl,trivial⟩,rfl⟩ (λy a' w' g1 g2 g3=>bodyPost_ret g1 g2 (Bv.o _ _ ⟨y,rfl,?_⟩)) (λc a d v w h=>by cases d<;>exact h)
  .obtain⟨c,T,f,h1,-⟩:=mr.typed k hk;exact hM.far k (Y1.1 h1).1
  .show Wf .sl (pL (ATree.nt _ a).kids);rw[<-Zw,SV];exact iu.o
  .rw[SV,Tw];exact HM.o
  .have h1:=j7.o;have h2:=F.o.size;have h3:=bP.o.size;show w.heap.size<w3.heap.size;omega
  .exact(bP.o.block _ (Y1.1 Z.o).1).trans Z.o
  .rw[Y5 J.o];exact g3
 .have J:=lh m;rw[show df c= .iface 34 (vI c)from Y3 m];clear m;have q:=Z.o;have I:vC w2 w.heap.size 0 (.slice none 0 0):=by simp[vC,World.cell?,q]
  have z0:w2.frozen? ⟨w.heap.size,0,none⟩=false:=Ql
  have q1:vC w2 w.heap.size 1 (vI 0):=QE
  have o:w2.frozen? ⟨w.heap.size,1,none⟩=false:=Ql
  have q2:vC w2 w.heap.size 2 (.string ⟨#[]⟩):=QE
  have z2:w2.frozen? ⟨w.heap.size,2,none⟩=false:=Ql
  have q3:vC w2 w.heap.size 3 (vI 0):=QE
  have z3:w2.frozen? ⟨w.heap.size,3,none⟩=false:=Ql
  have q4:vC w2 w.heap.size 4 (.slice none 0 0):=QE
  have z4:w2.frozen? ⟨w.heap.size,4,none⟩=false:=Ql
  clear q;go_wp2_with fail
  refine bodyPost_ret (v:=.tuple #[.agg #[.slice none 0 0,vI 0,.string ⟨#[]⟩,vI 0,.slice none 0 0],.iface 34 (vI c)]) ?_ rfl ?_;·simp[results,Tryz.results6,go_sem,I,q1,q2,q3,q4]
  .refine Bv.o _ _ ⟨_,rfl,?_⟩;rw[Y3 J.o,show df c=.iface 34 (vI c)from Y3 J.o];refine⟨rfl,?_⟩;have hb:=g.o.trans (F.o.mono g.o.size);exact⟨hb.os,hb.tape,hb.output,by simpa[World.setCell]using hb.size,λk hk=>by
    rw[Y8 _ _ _ _ (show k≠w.heap.size by omega),Y8 _ _ _ _ (show k≠w.heap.size by omega),Y8 _ _ _ _ (show k≠w.heap.size by omega),Y8 _ _ _ _ (show k≠w.heap.size by omega),Y8 _ _ _ _ (show k≠w.heap.size by omega)];exact hb.block k hk⟩
def Zfe:ByteArray:=⟨#[118,97,114,32,97,32,61,32,50,59,32,112,114,105,110,116,40,97,32,42,32,51,41,59]⟩
def Zez:Tree:=.mk 1 ⟨#[]⟩ 0 [.mk 2 ⟨#[97]⟩ 0 [.mk 17 ⟨#[]⟩ 2 []],.mk 15 ⟨#[]⟩ 0 [.mk 35 ⟨#[]⟩ 0 [.mk 23 ⟨#[112,114,105,110,116]⟩ 0 [],.mk 31 ⟨#[]⟩ 0 [.mk 23 ⟨#[97]⟩ 0 [],.mk 17 ⟨#[]⟩ 3 []]]]]
theorem Zdy:xG Zfe=.ok Zez:=by kernel_rfl
def Zrn(a b c d e f g h i:Int):NT:=.mk a 1 ⟨#[]⟩ 0 [.mk b 2 ⟨#[97]⟩ 0 [.mk c 17 ⟨#[]⟩ 2 []],.mk d 15 ⟨#[]⟩ 0 [.mk e 35 ⟨#[]⟩ 0 [.mk f 23 ⟨#[112,114,105,110,116]⟩ 0 [],.mk g 31 ⟨#[]⟩ 0 [.mk h 23 ⟨#[97]⟩ 0 [],.mk i 17 ⟨#[]⟩ 3 []]]]]
theorem Zof(a b c d e g i:Int)(f h:Nat):(ow (Zrn a b c d e (Int.ofNat f) g (Int.ofNat h) i)).code=1:=by kernel_rfl
theorem Zr2(a b c d e g i:Int)(f h:Nat):(ow (Zrn a b c d e (Int.ofNat f) g (Int.ofNat h) i)).log=[⟨#[54]⟩]:=by kernel_rfl
theorem Zmn{a x:ATree}(hx:x∈a.subs):∃k:Nat,B6 a x.b=Int.ofNat k:=by
 have h:=Zmk a x hx;unfold B6;cases hf:(uR lw a []).find? (λy=>y.1==x.b)with
 |none=>exact absurd (List.find?_eq_none.1 hf _ h) Pg
 |some y=>exact⟨y.2,rfl⟩
theorem TY{a:ATree}{k:Int}{s:ByteArray}{n:Int}{l:List Tree}(h:a.tree=.mk k s n l):∃b v ks,a=.mk b v k s n ks∧fs ks=l:=by
 obtain⟨b,v,g,s',m,ks⟩:=a;simp only[ATree.tree,Tree.mk.injEq]at h;obtain⟨rfl,rfl,rfl,h⟩:=h;exact⟨b,v,ks,rfl,h⟩
theorem UH{l:List ATree}{t:Tree}{r:List Tree}(h:fs l=t::r):∃a g,l=a::g∧a.tree=t∧fs g=r:=by
 cases l with
 |nil=>simp[fs]at h
 |cons a l=>simp only[fs,List.cons.injEq]at h;exact⟨a,l,rfl,h.1,h.2⟩
theorem TM{l:List ATree}(h:fs l=[]):l=[]:=by
 cases l with
 |nil=>rfl
 |cons a l=>simp[fs]at h
theorem Zo0{a:ATree}(h:a.tree=Zez):LW a false false=0∧(ow (a.nt (B6 a))).code=1∧(ow (a.nt (B6 a))).log=[⟨#[54]⟩]:=by
 have hn:=λx hx=>Zmn (a:=a) (x:=x) hx;obtain⟨N,m⟩:=zX (B6 a)
 rw[<-m]at hn ⊢;clear m;obtain⟨o,v0,l0,rfl,F⟩:=TY h;obtain⟨a1,r0,rfl,G,I⟩:=UH F;obtain⟨a2,r1,rfl,J,O⟩:=UH I;obtain rfl:=TM O;obtain⟨b1,U,l1,rfl,X⟩:=TY G;obtain⟨a3,r2,rfl,Y,Z⟩:=UH X;obtain rfl:=TM Z;obtain⟨b3,v3,l3,rfl,g3⟩:=TY Y;obtain rfl:=TM g3;obtain⟨b2,v2,l2,rfl,g2⟩:=TY J;obtain⟨a4,r3,rfl,h4,e3⟩:=UH g2;obtain rfl:=TM e3;obtain⟨b4,v4,l4,rfl,g4⟩:=TY h4;obtain⟨a5,r4,rfl,h5,e4⟩:=UH g4;obtain⟨a6,r5,rfl,h6,e5⟩:=UH e4;obtain rfl:=TM e5;obtain⟨b5,v5,l5,rfl,g5⟩:=TY h5
 obtain rfl:=TM g5;obtain⟨p,v6,l6,rfl,g6⟩:=TY h6;obtain⟨a7,r6,rfl,h7,e6⟩:=UH g6;obtain⟨a8,r7,rfl,h8,e7⟩:=UH e6;obtain rfl:=TM e7;obtain⟨b7,u,l7,rfl,g7⟩:=TY h7;obtain rfl:=TM g7;obtain⟨y,v8,l8,rfl,g8⟩:=TY h8;obtain rfl:=TM g8;obtain⟨f,hf⟩:=hn (.mk b5 v5 23 ⟨#[112,114,105,110,116]⟩ 0 []) (by simp[ATree.subs,ox]);obtain⟨g,E⟩:=hn (.mk b7 u 23 ⟨#[97]⟩ 0 []) (by simp[ATree.subs,ox]);simp only[ATree.b]at hf E
 have e:ATree.nt N (.mk o v0 1 ⟨#[]⟩ 0 [.mk b1 U 2 ⟨#[97]⟩ 0 [.mk b3 v3 17 ⟨#[]⟩ 2 []],.mk b2 v2 15 ⟨#[]⟩ 0 [.mk b4 v4 35 ⟨#[]⟩ 0 [.mk b5 v5 23 ⟨#[112,114,105,110,116]⟩ 0 [],.mk p v6 31 ⟨#[]⟩ 0 [.mk b7 u 23 ⟨#[97]⟩ 0 [],.mk y v8 17 ⟨#[]⟩ 3 []]]]])=Zrn (N o) (N b1) (N b3) (N b2) (N b4) (Int.ofNat f) (N p) (Int.ofNat g) (N y):=by
  rw[<-hf,<-E];rfl
 rw[e];exact⟨rfl,Zof ..,Zr2 ..⟩
