import Derived.Test.YtkebnpemgkjpkaaGreatDoorJ18
import Derived.Lib.ItoaLen
set_option maxRecDepth 100000
set_option maxHeartbeats 20000000
set_option linter.all false
namespace Go.Proofs.YtkebnpemgkjpkaaGreatDoor
open Go Go.RowKit Go.Proofs.Tryz Tryz
theorem VA:Tryz.prog.underlying 56=some (.struct (Tryz.prog.fieldsOf 56)):=by kernel_rfl
theorem AbL:Tryz.prog.stoodInHeld 56=false:=by kernel_rfl
theorem flV:(Tryz.prog.fieldsOf 56).toList=[⟨"Kind",3,0,false, "", "",0⟩,⟨"N",3,1,false, "", "",8⟩,⟨"S",9,2,false, "", "",16⟩]:=by kernel_rfl
def Zu7(w:kV)(k n g m:Int)(t t':kB):(binOp .eql 56 (.agg #[vI k,vI n,.string t]) (.agg #[vI g,vI m,.string t'])).run Tryz.prog w=.ok (.bool (LVal.same ⟨k,n,t⟩ ⟨g,m,t'⟩)) w:=by
 rw[run_eql_struct,run_equalIn_agg w 9999 _ _ _ VA AbL,flV];have u:=Yk;have u2:=Yj;have p:∀w,(Op.equalIn 9999 3 (vI k) (vI g)).run Tryz.prog w=.ok (k==g) w:=λw=>run_equalIn_int w 9998 _ _ _ _ _ u;have i2:∀w,(Op.equalIn 9999 3 (vI n) (vI m)).run Tryz.prog w=.ok (n==m) w:=λw=>run_equalIn_int w 9998 _ _ _ _ _ u;have i3:∀w,(Op.equalIn 9999 9 (.string t) (.string t')).run Tryz.prog w=.ok (t.toList==t'.toList) w:=λw=>run_equalIn_string w 9998 _ _ _ u2
 by_cases hk:k=g
 .by_cases hn:n=m
  .simp[go_sem,p,i2,i3,hk,hn,LVal.same,Ti];cases Zg t t'<;>rfl
  .simp[go_sem,p,i2,i3,hk,hn,LVal.same]
 .simp[go_sem,p,i2,i3,hk,LVal.same]
theorem bytesLess_eq:∀a b:List UInt8,Op.bytesLess a b=decide (a<b)
 | [],[]=>by simp[Op.bytesLess]
 | [],_::_=>by simp[Op.bytesLess]
 |_::_,[]=>by simp[Op.bytesLess]
 |x::a,y::b=>by
   simp[Op.bytesLess,List.cons_lt_cons_iff,bytesLess_eq a b];by_cases g:x=y<;>simp[g]
def V8(w:kV)(b:Bool) :
 kC 116 #[.bool b] w λe w'=>e=.returned (.agg #[vI 2,vI (if b then 1 else 0),.string ⟨#[]⟩])/\kW w w':=by
 cases b
 .go_enter func116,ntmps116
  go_wp2;exact Yp (v:=.agg #[vI 2,vI 0,.string ⟨#[]⟩]) (by simp[results,results116,go_sem]) rfl ⟨rfl,Z1 _ _⟩
 .go_enter func116,ntmps116
  go_wp2;exact Yp (v:=.agg #[vI 2,vI 1,.string ⟨#[]⟩]) (by simp[results,results116,go_sem]) rfl ⟨rfl,Z1 _ _⟩
section
variable {C:RCtx}{M M':MRep}{w w':kV}{s s':MSt}{B:Nat}{a:ATree}{V:VF}{D:DF}{b:Int}{sc:Int}{fr:Frm}{d:Nat}
def Zdp{v:LVal}{k:Nat}(h:v.ok k)(hk:k<=1000000000):-9223372036854775808<=v.n/\v.n<=9223372036854775807:=by
 by_cases h5:v.kind=5;·have:=h.2.2.2.2 h5;omega
 .have:=h.2.2.2.1 h5;omega
def Z90(H:LHeap){k:Nat}{v:LVal}(h:v.ok k)(hk:k<=1000000000):(H.shown v).size<=8388608:=by
 have hs:=h.2.2.1;have hb:=Zdp h hk;have:=Lib.itoa_length_le v.n hb.1 hb.2;unfold LHeap.shown;split;·decide
 split;·decide
 split;·split<;>decide
 split
 .simp[ByteArray.size];omega
 split;·omega
 split<;>decide
theorem Inv.objs(h:Inv s d):s.H.objects.length<=1000000000:=by have:=h.szO;have:=h.steps;omega
def Zq1(m:K8 C.w0)(h:MAt C M w s)(hI:Inv s d)(v:LVal)(g:v.ok s.H.objects.length):kC 26 #[vP C.mb,v.agg] w λe w'=>e=.returned (.string (s.H.shown v))/\kW w w':=
 Zrm h.heap v (Zdp g hI.objs).1 (Zdp g hI.objs).2 (m.below h.old)
def Zg7(gj:K8 C.w0)(h:MAt C M w s)(hI:Inv s d)(F:Int)(x y:LVal)(hx:x.ok s.H.objects.length)(hy:y.ok s.H.objects.length) :
 kC 120 #[vP C.mb,vI F,.agg #[vI x.kind,vI x.n,.string x.s],.agg #[vI y.kind,vI y.n,.string y.s]] w λe w'=>cK C M w (Ue F x y s) e w':=by
 obtain⟨R,hR⟩:=zX (Ue F x y s)
 rw[<-hR];obtain⟨p,g,xs⟩:=x;obtain⟨u,m,I⟩:=y;simp only;have b1:=Z1 w (vO p g xs);have l1:=Lo.new (wE:=w) h (Y0 _) h.old.size #[vI p,vI g,.string xs] 56;have b2:=b1.trans ((Z1 (w.alloc (vO p g xs)) (vO u m I)).mono b1.size);have l2:=Lo.new (wE:=w) (h.below b1) b1.size h.old.size #[vI u,vI m,.string I] 56;have l3:=Lo.new (wE:=w) (h.below b2) b2.size h.old.size #[vI 0,vI 0,.string ⟨#[]⟩] 56;have b3:=b2.trans ((Z1 ((w.alloc (vO p g xs)).alloc (vO u m I)) (vO 0 0 ⟨#[]⟩)).mono b2.size)
 replace l1:=(l1.bel (Z1 _ (vO u m I))).bel (Z1 _ (vO 0 0 ⟨#[]⟩))
 replace l2:=l2.bel (Z1 _ (vO 0 0 ⟨#[]⟩))
 unfold vO at b3 l1 l2 l3;simp only[World.size_alloc]at l2 l3;obtain⟨z,hz⟩:=zX (((w.alloc (.cells #[vI p,vI g,.string xs] 56)).alloc (.cells #[vI u,vI m,.string I] 56)).alloc (.cells #[vI 0,vI 0,.string ⟨#[]⟩] 56))
 rw[<-hz]at b3 l1 l2 l3;have aD:=h.below b3;obtain⟨HLR,HBZ,HM,Hk⟩:=en l3 b3 aD (λt W (hB:kW z W)=>Sf (aD.below hB) t);have hb:=λn=>Zgb aD n;have xC:=lh hb;have hi:=λb=>V8 z b;obtain⟨FB,rl,ny,Az⟩:=en hi (λW (hB:kW z W)=>Zq1 gj (aD.below hB) hI ⟨p,g,xs⟩ hx) (λW (hB:kW z W)=>Zq1 gj (aD.below hB) hI ⟨u,m,I⟩ hy) (Yu (Z90 s.H hx hI.objs) (Z90 s.H hy hI.objs))
 have oM:=lh (show p≠5->-1000000000<=g/\g<=1000000000 from hx.2.2.2.1);have oU:=lh (show u≠5->-1000000000<=m/\m<=1000000000 from hy.2.2.2.1)
 have HS:=lh (show∀W M',MFr M M' z W->vC W w.heap.size 0 (vI p)/\vC W w.heap.size 1 (vI g)/\vC W w.heap.size 2 (.string xs)/\vC W (w.heap.size+1) 0 (vI u)/\vC W (w.heap.size+1) 1 (vI m)/\vC W (w.heap.size+1) 2 (.string I)from
  λW M' f=>⟨(l1.fr f).cell rfl,(l1.fr f).cell rfl,(l1.fr f).cell rfl,(l2.fr f).cell rfl,(l2.fr f).cell rfl,(l2.fr f).cell rfl⟩)
 obtain⟨x0,x1,x2,y0,y1,y2⟩:=HS.o z M (.refl _ _);rw[hz]at x0 x1 x2 y0 y1 y2;have HZ:=lh hz;simp only[LVal.agg]at rl ny;have tT:∀a b:kB,Op.bytesLess a.toList b.toList=Zqy a b:=λa b=>by rw[bytesLess_eq];rfl
 clear hz aD l1 l2 l3 b1 b2 b3 hb hi h hI hx hy gj;by_cases J:F=27
 .subst J;simp only[Ue,if_true]at hR;obtain⟨bb,rf⟩:=zX (LVal.same ⟨p,g,xs⟩ ⟨u,m,I⟩)
  rw[<-rf]at hR;have jZ:∀w,(binOp .eql 56 (.agg #[vI p,vI g,.string xs]) (.agg #[vI u,vI m,.string I])).run Tryz.prog w=.ok (.bool bb) w:=λw=>by rw[rf];exact Zu7 w _ _ _ _ _ _
  clear rf;obtain⟨ib,ei⟩:∃ib:Int,ib=if(bb)=true then 1 else 0:=⟨_,rfl⟩
  have am:R=(s,.ok ⟨2,ib,⟨#[]⟩⟩):=RJ
  have h1:=FB.o (bb);exact ZN
 have JJ:(F==27)=false:=by simp[J]
 by_cases bF:p=3/\u=3
 .obtain⟨rfl,rfl⟩:=bF;have hx:=oM.o Py;have hy:=oU.o Py;clear oM oU tT;have oe:-1000000000000000000<=g*m/\g*m<=1000000000000000000:=by
   have h1:g.natAbs<=1000000000:=Px
   have h2:m.natAbs<=1000000000:=Px
   have h3:(g*m).natAbs<=1000000000*1000000000:=by rw[Int.natAbs_mul];exact Nat.mul_le_mul h1 h2
   omega
  simp only[Ue,if_neg J,and_self,if_true]at hR;by_cases O:F=28
  .subst O;simp only[if_true]at hR;clear hx hy oe J;obtain⟨ib,ei⟩:∃ib:Int,ib=if(decide (g<m))=true then 1 else 0:=⟨_,rfl⟩
   have am:R=(s,.ok ⟨2,ib,⟨#[]⟩⟩):=RJ
   have h1:=FB.o (decide (g<m));exact ZN
  have JN:(F==28)=false:=by simp[O]
  rw[Y3 O]at hR;by_cases jM:F=29
  .subst jM;simp only[if_true]at hR;have wr:IntKind.i64.wrap (g+m)=g+m:=IntWalk.i64_in _ Px;clear hx hy oe J O;go_enter func120,ntmps120
   go_wp2_with fail
   rw[<-HZ.o];clear x0 x1 x2 y0 y1 y2;refine(Calls.vres (xC.o (g+m))).mono ?_;rintro e w1⟨M1,k1,n1,t1,bL,rfl,Z⟩;obtain⟨q0,q1,q2,z0,z1,z2⟩:=(HLR.o.fr Z.2.1).six;have av:=lh Z;clear Z;obtain⟨R0,mw⟩:=zX (TM (g+m) s)
   exact ZZ
  have Mw:(F==29)=false:=by simp[jM]
  rw[Y3 jM]at hR;by_cases sI:F=30
  .subst sI;simp only[if_true]at hR;have wr:IntKind.i64.wrap (g-m)=g-m:=IntWalk.i64_in _ Px;clear hx hy oe J O jM;go_enter func120,ntmps120
   go_wp2_with fail
   rw[<-HZ.o];clear x0 x1 x2 y0 y1 y2;refine(Calls.vres (xC.o (g-m))).mono ?_;rintro e w1⟨M1,k1,n1,t1,bL,rfl,Z⟩;obtain⟨q0,q1,q2,z0,z1,z2⟩:=(HLR.o.fr Z.2.1).six;have av:=lh Z;clear Z;obtain⟨R0,mw⟩:=zX (TM (g-m) s)
   exact ZZ
  have O1:(F==30)=false:=by simp[sI]
  rw[Y3 sI]at hR;have wr:IntKind.i64.wrap (g*m)=g*m:=IntWalk.i64_in _ Px;clear hx hy oe J O jM sI;go_enter func120,ntmps120
  go_wp2_with fail
  rw[<-HZ.o];clear x0 x1 x2 y0 y1 y2;refine(Calls.vres (xC.o (g*m))).mono ?_;rintro e w1⟨M1,k1,n1,t1,bL,rfl,Z⟩;obtain⟨q0,q1,q2,z0,z1,z2⟩:=(HLR.o.fr Z.2.1).six;have av:=lh Z;clear Z;obtain⟨R0,mw⟩:=zX (TM (g*m) s)
  exact ZZ
 have BV:(p==3)=false\/(p==3)=true/\(u==3)=false:=by
  by_cases h1:p=3;·exact .inr ⟨by simp[h1],by simp;exact λh2=>bF ⟨h1,h2⟩⟩
  .exact .inl Sc
 clear oM oU;simp only[Ue,if_neg J,if_neg bF]at hR;clear bF;by_cases O:F=28
 .subst O;clear rl ny;by_cases U:p=4/\u=4
  .obtain⟨rfl,rfl⟩:=U;simp at hR;clear BV J;obtain⟨ib,ei⟩:∃ib:Int,ib=if(Zqy xs I)=true then 1 else 0:=⟨_,rfl⟩
   have am:R=(s,.ok ⟨2,ib,⟨#[]⟩⟩):=RJ
   have h1:=FB.o (Zqy xs I);exact ZN
  .have hc:(p==4)=false\/(p==4)=true/\(u==4)=false:=by
    by_cases h1:p=4;·exact .inr ⟨by simp[h1],by simp;exact λh2=>U ⟨h1,h2⟩⟩
    .exact .inl Sc
   rw[Y3 (λe=>U e.2),Y3 (λe=>absurd e.1 Py)]at hR;simp only[tE,r']at hR;clear U J;rcases BV with h3|⟨h3,tt⟩<;>rcases hc with hc|⟨hc,mJ⟩
   all_goals
    go_enter func120,ntmps120
    go_wp2_with fail
    rw[<-HZ.o];clear x0 x1 x2 y0 y1 y2;refine Zxw ?_;intro w9 ev q0 q1 q2 z0 z1 z2 eH HE;subst hR;go_wp2;refine Yp (v:=.tuple #[.agg #[vI 0,vI 0,.string ⟨#[]⟩],ev]) ?_ rfl ?_;·simp[results,results120,go_sem,q0,q1,q2]
    .exact .err HLR.o HBZ.o (HM.o.below eH.o) (MFr.trans (.refl _ _) (.of_below eH.o)) HE.o
 have JN:(F==28)=false:=by simp[O]
 rw[Y3 (λe=>O e.1)]at hR;by_cases jM:F=29
 .subst jM;by_cases U:p=4\/u=4
  .rw[Y5 ⟨rfl,U⟩]at hR;have hc:(p==4)=true\/(p==4)=false/\(u==4)=true:=by
    by_cases h1:p=4;·exact .inl Sc
    .exact .inr ⟨by simp[h1],by simp;exact U.resolve_left h1⟩
   obtain⟨X,hX⟩:=zX (s.H.shown ⟨p,g,xs⟩)
   obtain⟨Y,hY⟩:=zX (s.H.shown ⟨u,m,I⟩)
   rw[<-hX]at hR rl Az;rw[<-hY]at hR ny Az;have aZ:(X++Y).size=X.size+Y.size:=ByteArray.size_append;have dI:=Az.o.1;have Mx:=Az.o.2;have dA:(X.size:Int)+Y.size<=9223372036854775807:=Px
   have ss:X.size+Y.size<=9223372036854775807:=Px
   obtain⟨XY,CJ⟩:=zX (X++Y)
   rw[<-CJ]at hR aZ;have O3:=lh CJ;have My:∀w,(Op.stringOp .add X Y).run Tryz.prog w=.ok (.string XY) w:=λw=>by rw[CJ];exact run_string_add_sum w X Y ss
   have HR:=lh hR;have O4:=lh aZ;clear U J O JN hX hY tT CJ hR aZ dI Mx dA ss Az;have FC:decide (500<(XY.size:Int))=true/\500<XY.size\/decide (500<(XY.size:Int))=false/\¬500<XY.size:=by
    by_cases h9:500<XY.size;·exact .inl ⟨decide_eq_true Px,h9⟩
    .exact .inr ⟨decide_eq_false Px,h9⟩
   rcases BV with h3|⟨h3,tt⟩<;>rcases hc with hc|⟨hc,mJ⟩<;>rcases FC with⟨va,vQ⟩|⟨va,vQ⟩
   all_goals
    have hR:=HR.o;simp only[vQ,if_true,if_false,tE,r',d9]at hR;have sJ:=lh vQ;clear HR vQ;go_enter func120,ntmps120
    go_wp2_with fail
    rw[<-HZ.o];clear x0 x1 x2 y0 y1 y2;refine ow [(true,0),(true,1),(true,2),(true,3),(true,5),(true,6),(true,7),(true,8),(false,4)] [9,10,11] (λW=>vC W w.heap.size 0 (vI p)/\vC W w.heap.size 1 (vI g)/\vC W w.heap.size 2 (.string xs)/\vC W (w.heap.size+1) 0 (vI u)/\vC W (w.heap.size+1) 1 (vI m)/\vC W (w.heap.size+1) 2 (.string I)) (HS.o _ _ (.drew (.refl _ _))) (λbq=>?_);refine f8 ?_;intro K hK
    refine(rl.o _ (Zd _)).mono ?_;rintro e w1⟨rfl,aO⟩;have vR:=(Zd z).trans (aO.mono (Y0 _));refine hK _ _ (HS.o _ _ (.of_below vR)) ?_;clear hK K;have av:=lh vR;clear aO vR;refine Z0 ?_;go_wp2_with fail
    refine(ny.o w1 av.o).mono ?_;rintro e w2⟨rfl,ar⟩;have aN:=zT av ar;clear ar;have FD:=lh (Hk.o T3 w2 aN.o);have sK:=lh (Zbe w2 XY);simp only[LVal.agg]at sK;go_wp2_with fail
   iterate 4
    .refine FD.o.mono ?_;rintro e w9⟨ev,rfl,he,nq⟩;obtain⟨q0,q1,q2,z0,z1,z2⟩:=(HLR.o.fr (MFr.trans (.of_below aN.o) (.of_below nq))).six;have eH:=lh nq;have HE:=lh he;clear nq he;subst hR;go_wp2;refine Yp (v:=.tuple #[.agg #[vI 0,vI 0,.string ⟨#[]⟩],ev]) ?_ rfl ?_;·exact UY
     .exact .err HLR.o HBZ.o ((HM.o.below aN.o).below eH.o) (MFr.trans (.of_below aN.o) (.of_below eH.o)) HE.o
    .refine sK.o.mono ?_;rintro e w9⟨rfl,nq⟩;obtain⟨q0,q1,q2,z0,z1,z2⟩:=(HLR.o.fr ((MFr.of_below aN.o).trans (.of_below nq))).six;have eH:=lh nq;clear nq;subst hR;go_wp2;refine Yp (v:=.tuple #[.agg #[vI 4,vI 0,.string XY],.nilIface]) ?_ rfl ?_;·exact UY
     .exact .fine HLR.o HBZ.o ((HM.o.below aN.o).below eH.o) ((MFr.of_below aN.o).trans (.of_below eH.o))
  .have O5:(p==4)=false:=by simp;exact λh1=>U (.inl h1)
   have O6:(u==4)=false:=by simp;exact λh1=>U (.inr h1)
   rw[Y3 (λe=>U e.2)]at hR;simp only[tE,r']at hR;clear U J O rl ny;exact Acc
 .have Mw:(F==29)=false:=by simp[jM]
  rw[Y3 (λe=>jM e.1)]at hR;simp only[tE,r']at hR;clear J O jM rl ny;exact Acc
def Zfd(h:MAt C M w s)(hI:Inv s d)(ha:TreeAt w B a)(hf:a.free M)(hk:a.kind=23) :
 kC 132 #[vP C.mb,a.ptr,vI sc,.agg #[.bool fr.strict,vI fr.vars]] w λe w'=>cK C M w (K' V (a.nt C.N) sc fr s) e w':=by
 obtain⟨R,hR⟩:=zX (K' V (a.nt C.N) sc fr s)
 rw[<-hR];unfold K' at hR;rw[Zb,Y5 hk,rH]at hR;refine Om ?_;intro aP lf lr z hz;rw[<-hz]at aP lf lr;refine Sp ?_;intro aD aI;have O:=ha.lt;have c0:=(aP.cell O).trans ha.c0;have c1:=ha.c1;rw[hk]at c0;have U:∀W M',MFr M M' z W->vC W a.b 1 (.string a.text):=λW M' f=>
  have g:MFr M M' w W:=(MFr.of_below aP).trans f;(g.cell O hf.blk).trans c1
 obtain⟨ix,u⟩:=zX (s.H.find sc a.text)
 rw[<-u]at hR;have y:=Zds aD.drew.heap hI.wf sc a.text;rw[<-u]at y;have X:=lh y;have hd:=λW (hB:kW z W)=>AcB (aD.below hB) ix a.text;obtain⟨Y,Z⟩:=zX ((s.H.drop ix a.text).2)
 obtain⟨sd,qt⟩:=zX (s.setH (s.H.drop ix a.text).1)
 rw[<-Z,<-qt]at hR hd;obtain⟨Ds,HS,HLR,HBZ,HM⟩:=gp hd U lr aP aD;rw[hz]at c0;have HZ:=lh hz;clear hz aD lf lr U c1 aP aI ha hf h hI y hd Z qt u;unfold ATree.ptr;have df:decide (ix<0)=true/\ix<0\/decide (ix<0)=false/\¬ix<0:=by
  exact Zx2
 rcases df with⟨d0,F⟩|⟨d0,F⟩
 .rw[Y5 F]at hR;have I:R=(s,.ok ⟨2,1,⟨#[]⟩⟩):=hR;clear hR;subst I;go_enter func132,ntmps132
  go_wp2_with fail
  rw[<-HZ.o];clear c0;refine Zz7 ?_;intro bq;go_wp2_with fail
  refine X.o.mono ?_;rintro e w1⟨rfl,m⟩;have av:=lh ((Zd z).trans (m.mono (Y0 _)));clear m;go_wp2_with fail
  refine Zzr ?_;intro bq;have J:=lh (V8 w1.drew true);go_wp2_with fail
  refine J.o.mono ?_;rintro e w2⟨rfl,ar⟩;have hB3:=av.o.drew.trans (ar.mono av.o.size);obtain⟨q0,q1,q2,z0,z1,z2⟩:=(HLR.o.bel hB3).six;have HB3:=lh hB3;clear ar hB3;go_wp2;refine Yp (v:=.tuple #[.agg #[vI 2,vI 1,.string ⟨#[]⟩],.nilIface]) ?_ rfl ?_;·exact LV
  .exact .fine HLR.o HBZ.o (HM.o.below HB3.o) (.of_below HB3.o)
 .rw[Y3 F]at hR;obtain⟨p,ei⟩:∃p:Int,p=if Y=true then 1 else 0:=⟨_,rfl⟩
  have I:R=(sd,.ok ⟨2,p,⟨#[]⟩⟩):=RJ
  have FE:=lh ei;clear hR ei;subst I;go_enter func132,ntmps132
  go_wp2_with fail
  rw[<-HZ.o];clear c0;refine Zz7 ?_;intro bq;go_wp2_with fail
  refine X.o.mono ?_;rintro e w1⟨rfl,m⟩;have av:=lh ((Zd z).trans (m.mono (Y0 _)));clear m;go_wp2_with fail
  refine Zzr ?_;intro bq;go_wp2_with fail
  refine(Ds.o _ av.o.drew).mono ?_;rintro e w2⟨rfl,M2,aM,ap⟩;have hF:=(MFr.of_below (M:=M) av.o.drew).trans ap;have hi:=V8 w2 Y;rw[<-FE.o]at hi;obtain⟨J,bR,ba⟩:=ds hi aM hF;clear aM ap hF hi;go_wp2_with fail
  refine J.o.mono ?_;rintro e w3⟨rfl,hB3⟩;refine Zs7 ?_;intro q0 q1 q2 z0 z1 z2 HB3;clear hB3;go_wp2;refine Yp (v:=.tuple #[.agg #[vI 2,vI p,.string ⟨#[]⟩],.nilIface]) ?_ rfl ?_;·exact LV
  .exact Zty
def Zh2(cj:zm C V b)(hV:VH V b)(h:MAt C M w s)(hI:Inv s (d+1))(hA:FAt s sc fr)(hb:b<=s.steps)(hs:s.steps<=20000)(ha:TreeAt w B a)(hf:a.free M){o:ATree}(hk:a.kind=36)(ho:a.kids=[o])(wo:(o.nt C.N).wf .v)(mo:(o.nt C.N).tree.many<=1500) :
 kC 132 #[vP C.mb,a.ptr,vI sc,.agg #[.bool fr.strict,vI fr.vars]] w λe w'=>cK C M w (K' V (a.nt C.N) sc fr s) e w':=by
 obtain⟨R,hR⟩:=zX (K' V (a.nt C.N) sc fr s)
 rw[<-hR];unfold K' at hR;refine Zow ?_;intro e0;rw[Zb,Y3 (by rw[hk];decide),Y5 hk,e0,rH]at hR;refine Om ?_;intro aP lf lr z hz;rw[<-hz]at aP lf lr;refine Sp ?_;intro aD aI;obtain⟨I,kc,c3,cC,aR,bO,aX,eZ⟩:=ha.row hf Qp;rw[ho]at c3 cC bO;refine Zlx ?_;intro im k0 c1;simp only[List.length_cons,List.length_nil]at c3 cC;have J:=ha.lt;have c0:=(aP.cell J).trans ha.c0;rw[hk]at c0
 have aq:∀W M',MFr M M' z W->vC W w.heap.size 0 (.bool fr.strict)/\vC W w.heap.size 1 (vI fr.vars)/\vC W a.b 1 (.string a.text)/\vC W a.b 3 (.slice (some ⟨I,0,none⟩) 1 kc)/\vC W I 0 (vP o.b):=λW M' f=>
  have g:MFr M M' w W:=(MFr.of_below aP).trans f;⟨(lf.fr f).cell rfl,(lf.fr f).cell rfl,(g.cell J hf.blk).trans c1,(g.cell J hf.blk).trans c3,(g.cell aX eZ).trans k0⟩
 refine Wl ?_;intro r1 bz bE an;unfold Zx at hR;rw[<-bz]at bE an hR;refine Xv ?_;intro bI HR HS;have HLR:=lh lr;refine FR ?_;intro dB HBZ HM HO HE;rw[hz]at c0;have HZ:=lh hz;clear hz aD lf lr aq c1 c3 k0 bO aP aI ha hf h hI hA bz an hR ho e0 hk im;unfold ATree.ptr;go_enter func132,ntmps132
 go_wp2_with fail
 rw[<-HZ.o];clear c0
 refine vy (.take 0 (.take 1 (.take 2 (.take 3 (.take 4 (.take 5 (.take 6 (.take 7 (.take 8 (.two 9 (.take 10 (.take 11 (.take 12 (.go 13 (.go 14 (.go 15 (.nil))))))) 13 (.go 9 (.take 10 (.take 11 (.take 12 (.go 14 (.go 15 (.nil))))))))))))))))) 14 (λW=>vC W w.heap.size 0 (.bool fr.strict)/\vC W w.heap.size 1 (vI fr.vars)/\vC W a.b 1 (.string a.text)/\vC W a.b 3 (.slice (some ⟨I,0,none⟩) 1 kc)/\vC W I 0 (vP o.b)) (HS.o _ _ (MFr.drew (.refl _ _))) ?_
 refine qa ?_;refine Zr ?_;apply Sx (H:=ru C w M z r1);·exact SU HS bE HE.o HO.o
 .exact Oz HS bE HM HE.o HO.o
 intro W1 p1 M1 O n1 t1 bL ah;have y:=ah.1.2.1;have bw:=lh y;obtain⟨s1,q1⟩:=r1;cases q1 with
 |error x1=>
   refine Xb ?_;intro he av hR;simp only at hR;subst hR;obtain⟨T1,P1,rfl,hP⟩:=he.ne;have ed:=lh he;obtain⟨q0,q1,q2,z0,z1,z2⟩:=(HLR.o.fr y).six;clear ah he HR y;go_wp2;refine Yp (v:=.tuple #[.agg #[vI 0,vI 0,.string ⟨#[]⟩],.iface T1 (.pointer P1)]) ?_ rfl ?_;·exact LV
   .exact Zsy
 |ok v1=>
   obtain⟨rfl,rfl⟩:v1=⟨O,n1,t1⟩/\bL=.nilIface:=ah.1.2.2;have hR:=HR.o;simp only at hR;obtain⟨c0,c1,c2,-,-,-⟩:=ah.2.six;have dY:=ah.1.1;have U:=lh dY
   have iB:=lh (show∀F M',MFr M1 M' W1 F->vC F p1 1 (vI n1)/\vC F a.b 1 (.string a.text)from
    λF M' f=>⟨(ah.2.fr f).cell rfl,(HS.o F M' (y.trans f)).2.2.1⟩)
   have fY:=lh hR;have av:=lh ah;clear ah y hR HR dY;by_cases h5:O=5
   .subst h5;have hR:=fY.o;simp only[if_true]at hR;have hd:=Ac3 U.o.drew n1 a.text;obtain⟨db,AA⟩:=zX ((s1.H.cut n1 a.text).2)
    obtain⟨Y,qt⟩:=zX (s1.setH (s1.H.cut n1 a.text).1)
    rw[<-AA,<-qt]at hR hd;have Ds:=lh hd;clear hd AA qt fY;cases db
    .simp only[Bool.false_eq_true,if_false]at hR;cases hst:fr.strict
     .rw[hst]at hR;have p:R=(Y,.ok ⟨2,0,⟨#[]⟩⟩):=hR;clear hR;subst p;go_wp2_with fail
      refine Aas ?_;intro bq;go_wp2_with fail
      refine Zsp ?_;intro W2 M2 aM ap hF;have Z:=(dB.o.fr hF).cell (i:=0) rfl;rw[hst]at Z;obtain⟨u,bR,ba⟩:=ds (V8 W2 false) aM hF;clear aM ap hF;go_wp2_with fail
      refine u.o.mono ?_;rintro e W3⟨rfl,hB3⟩;refine Zs7 ?_;intro q0 q1 q2 z0 z1 z2 HB3;clear hB3;go_wp2;refine Yp (v:=.tuple #[.agg #[vI 2,vI 0,.string ⟨#[]⟩],.nilIface]) ?_ rfl ?_;·exact LV
      .exact Zty
     .rw[hst]at hR;have p:R=(Y,.error (.thr (.say wW))):=hR;clear hR;subst p;go_wp2_with fail
      refine Aas ?_;intro bq;go_wp2_with fail
      refine Zsp ?_;intro W2 M2 aM ap hF;have Z:=(dB.o.fr hF).cell (i:=0) rfl;rw[hst]at Z;obtain⟨u,bR,ba⟩:=ds (Sf aM wW) aM hF;clear aM ap hF;go_wp2_with fail
      refine u.o.mono ?_;rintro e W3⟨ev,rfl,he,hB3⟩;refine Zs7 ?_;intro q0 q1 q2 z0 z1 z2 HB3;exact tu4 bR ba
    .simp only[if_true]at hR;have p:R=(Y,.ok ⟨2,1,⟨#[]⟩⟩):=hR;clear hR;subst p;go_wp2_with fail
     refine Aas ?_;intro bq;go_wp2_with fail
     refine Zsp ?_;intro W2 M2 aM ap hF;obtain⟨u,bR,ba⟩:=ds (V8 W2 true) aM hF;clear aM ap hF;go_wp2_with fail
     refine u.o.mono ?_;rintro e W3⟨rfl,hB3⟩;refine Zs7 ?_;intro q0 q1 q2 z0 z1 z2 HB3;clear hB3;go_wp2;refine Yp (v:=.tuple #[.agg #[vI 2,vI 1,.string ⟨#[]⟩],.nilIface]) ?_ rfl ?_;·exact LV
     .exact Zty
   .have b5:(O !=5)=true:=by simp[h5]
    have hR:=fY.o;simp only[h5,if_false]at hR;have p:R=(s1,.error (.thr (.say wW))):=hR;clear hR fY h5;subst p;have u:=lh (Sf U.o wW);go_wp2_with fail
    refine u.o.mono ?_;rintro e W3⟨ev,rfl,he,hB3⟩;obtain⟨q0,q1,q2,z0,z1,z2⟩:=(HLR.o.fr (bw.o.trans (.of_below hB3))).six;have HB3:=lh hB3;exact tu4 U bw
def Zdf(cj:zm C V b)(hV:VH V b)(h:MAt C M w s)(hI:Inv s (d+1))(hA:FAt s sc fr)(hb:b<=s.steps)(hs:s.steps<=20000)(ha:TreeAt w B a)(hf:a.free M)(O:a.kind≠23)(U:a.kind≠36)(wa:(a.nt C.N).wf .v)(ma:(a.nt C.N).tree.many<=1500) :
 kC 132 #[vP C.mb,a.ptr,vI sc,.agg #[.bool fr.strict,vI fr.vars]] w λe w'=>cK C M w (K' V (a.nt C.N) sc fr s) e w':=by
 obtain⟨R,g⟩:=zX (K' V (a.nt C.N) sc fr s)
 rw[<-g];unfold K' at g;rw[Zb,Y3 O,Y3 U]at g;refine Om ?_;intro aP lf lr z hz;rw[<-hz]at aP lf lr;refine Sp ?_;intro aD aI;have bN:=ha.lt;have c0:=(aP.cell bN).trans ha.c0;have O7:(a.kind==23)=false:=by simp[O]
 have O8:(a.kind==36)=false:=by simp[U]
 obtain⟨r1,bz⟩:=zX (V (a.nt C.N) sc fr s)
 have bE:=lh (cj.from aD hI hA hb hs wa ma aI hf);unfold Zx at g;rw[<-bz]at bE g;obtain⟨I,m,u,HM,HO,HE⟩:=gq g lr aP aD h.old.size aP.size;obtain⟨f0,f1⟩:=lf.two;rw[hz]at c0 f0 f1;have HZ:=lh hz;clear hz aD lf lr aP aI ha hf h hI hA bz g O U;unfold ATree.ptr;go_enter func132,ntmps132
 go_wp2_with fail
 rw[<-HZ.o];clear c0 f0 f1;refine(bE.o z (Y2 _ _)).mono ?_;rintro e X⟨M1,Y,Z,t1,J,rfl,ah⟩;have p:=lh ah;simp only[ag];have HI:=lh (V8 (X.alloc (.cells #[vI Y,vI Z,.string t1] 56)) true);clear ah;go_wp2_with fail
 refine HI.o.mono ?_;rintro e W3⟨rfl,y⟩;have eF:=(Z1 X (.cells #[vI Y,vI Z,.string t1] 56)).trans (y.mono (Z1 _ _).size);obtain⟨q0,q1,q2,z0,z1,z2⟩:=(m.o.fr (p.o.2.1.trans (.of_below eF))).six;have F:=lh eF;clear y eF;obtain⟨s1,q1⟩:=r1;cases q1 with
 |error x1=>
   have he:ax C M1 W3 x1 J:=ax.bel (show ax C M1 X x1 J from p.o.2.2) F.o;have am:R=(s1,.error x1):=I.o;have ed:=lh he;clear he I;subst am;go_wp2;refine Yp (v:=.tuple #[.agg #[vI 2,vI 1,.string ⟨#[]⟩],J]) ?_ rfl ?_;·exact LV
   .exact .err m.o u.o (p.o.1.below F.o) (p.o.2.1.trans (.of_below F.o)) ed.o
 |ok v1=>
   obtain⟨rfl,rfl⟩:v1=⟨Y,Z,t1⟩/\J=.nilIface:=p.o.2.2;have am:R=(s1,.ok ⟨2,1,⟨#[]⟩⟩):=I.o;clear I;subst am;go_wp2;refine Yp (v:=.tuple #[.agg #[vI 2,vI 1,.string ⟨#[]⟩],.nilIface]) ?_ rfl ?_;·exact LV
   .exact .fine m.o u.o (p.o.1.below F.o) (p.o.2.1.trans (.of_below F.o))
def Zx9(cj:zm C V b)(hV:VH V b)(h:MAt C M w s)(hI:Inv s (d+1))(hA:FAt s sc fr)(hb:b<=s.steps)(hs:s.steps<=20000)(ha:TreeAt w B a)(hf:a.free M){o:ATree}(hk:a.kind=32)(ho:a.kids=[o])(wo:(o.nt C.N).wf .v)(mo:(o.nt C.N).tree.many<=1500) :
 kC 121 #[vP C.mb,a.ptr,vI sc,.agg #[.bool fr.strict,vI fr.vars]] w λe w'=>cK C M w (Cj V D (a.nt C.N) sc fr s) e w':=by
 refine Zj9 ?_;intro R hR;rw[<-hR];unfold Cj at hR;refine Zow ?_;intro e0;simp only[Zb,hk,e0,rH]at hR;refine OG ?_;intro aP lf lr ln z hz;rw[<-hz]at aP lf lr ln;refine Sp ?_;intro aD aI;obtain⟨kg,kc,c3,cC,aR,bO,aX,eZ⟩:=ha.row hf Qp;rw[ho]at c3 cC bO;refine Zlx ?_;intro im k0 c1;simp only[List.length_cons,List.length_nil]at c3 cC;refine Zqr ?_;intro bN hob mq qW qX c0;rw[hk]at c0;refine Abj ?_;intro aq;refine Wl ?_;intro r1 bz bE an;simp only[show¬(32:Int)=33 from by decide,if_false,if_true,Zx]at hR
 rw[<-bz]at bE an hR;refine Xv ?_;intro bI HR HS;have p:=lh lr;have bM:=lh ln;refine FR ?_;intro dB HBZ HM HO HE;have HZ:=lh hz;have d3:=(aP.cell bN).trans c3;rw[hz]at c0;clear hz aD lf lr ln aq c1 c3 k0 bO aP aI ha hf h hI hA bz an hR ho e0 hk im qW qX d3 mq;unfold ATree.ptr;go_enter func121,ntmps121
 go_wp2_with fail
 rw[<-HZ.o];clear c0;refine vy (.take 0 (.take 1 (.take 2 (.take 3 (.take 4 (.take 5 (.take 6 (.take 7 (.take 8 (.two 9 (.take 10 (.take 11 (.take 12 (.go 13 (.go 14 (.go 15 (.nil))))))) 13 (.go 9 (.take 10 (.take 11 (.take 12 (.go 14 (.go 15 (.nil))))))))))))))))) 14 (λW=>vC W w.heap.size 0 (.bool fr.strict)/\vC W w.heap.size 1 (vI fr.vars)/\vC W a.b 3 (.slice (some ⟨kg,0,none⟩) 1 kc)/\vC W kg 0 (vP o.b)) (HS.o _ _ (MFr.drew (.refl _ _))) ?_;refine qa ?_;refine Zr ?_
 apply Sx (H:=ru C w M z r1);·exact SU HS bE HE.o HO.o
 .exact Oz HS bE HM HE.o HO.o
 intro W1 p1 M1 k1 n1 t1 I J;have F1:=J.1.2.1;have U:=lh F1;obtain⟨g0,g1,g2,-,-,-⟩:=J.2.six;have O:=lh J;refine Zt8 ?_;intro ht bt cO;rw[<-cO]at ht;have HT:=lh ht;have mg:=lh cO;clear J F1 ht cO;go_wp2_with fail
 refine HT.o.mono ?_;rintro e W2⟨rfl,ar⟩;obtain⟨u,Y⟩:∃u:Int,u=if(!bt)=true then 1 else 0:=⟨_,rfl⟩
 have hi:=V8 W2 (!bt);rw[<-Y]at hi;obtain⟨HI,FE,aN⟩:=ds hi Y ar;clear hi Y ar g0 g1 g2;go_wp2_with fail
 refine HI.o.mono ?_;rintro e W3⟨rfl,y⟩;have Z:=aN.o.trans (y.mono aN.o.size);obtain⟨q0,q1,q2,z0,z1,z2⟩:=(p.o.fr (U.o.trans (.of_below Z))).six;have F:=lh Z;clear y Z;obtain⟨s1,q1⟩:=r1;cases q1 with
 |error x1=>
   have he:ax C M1 W3 x1 I:=ax.bel (show ax C M1 W1 x1 I from O.o.1.2.2) F.o;have am:R=(s1,.error x1):=HR.o;have ed:=lh he;clear he HR;subst am;go_wp2;refine Yp (v:=.tuple #[.agg #[vI 2,vI u,.string ⟨#[]⟩],I]) ?_ rfl ?_;·exact BG
   .exact .err p.o HBZ.o (O.o.1.1.below F.o) (U.o.trans (.of_below F.o)) ed.o
 |ok v1=>
   obtain⟨rfl,rfl⟩:v1=⟨k1,n1,t1⟩/\I=.nilIface:=O.o.1.2.2;have am:R=(s1,.ok ⟨2,u,⟨#[]⟩⟩):=by rw[FE.o,mg.o];exact HR.o
   clear HR;subst am;go_wp2;refine Yp (v:=.tuple #[.agg #[vI 2,vI u,.string ⟨#[]⟩],.nilIface]) ?_ rfl ?_;·exact BG
   .exact .fine p.o HBZ.o (O.o.1.1.below F.o) (U.o.trans (.of_below F.o))
def Zob{o:ATree}(h:MAt C M w s)(ha:TreeAt w B a)(hf:a.free M)(hk:a.kind=34)(ho:a.kids=[o])
 (y:∀W,kW w W->kC 132 #[vP C.mb,vP o.b,vI sc,.agg #[.bool fr.strict,vI fr.vars]] W λe w'=>cK C M W (K' V (o.nt C.N) sc fr s) e w') :
 kC 121 #[vP C.mb,a.ptr,vI sc,.agg #[.bool fr.strict,vI fr.vars]] w λe w'=>cK C M w (Cj V D (a.nt C.N) sc fr s) e w':=by
 refine Zj9 ?_;intro R hR;rw[<-hR];unfold Cj at hR;refine Zow ?_;intro e0;simp only[Zb,hk,e0,rH]at hR;refine OG ?_;intro aP lf lr ln z hz;rw[<-hz]at aP lf lr ln;refine Sp ?_;intro aD aI;obtain⟨kg,kc,c3,X,aR,bO,aX,eZ⟩:=ha.row hf Qp;rw[ho]at c3 X bO;refine Zlx ?_;intro im k0 c1;simp only[List.length_cons,List.length_nil]at c3 X;refine Zqr ?_;intro bN hob mq qW qX c0;rw[hk]at c0;refine Abj ?_;intro aq;obtain⟨r1,Y⟩:=zX (K' V (o.nt C.N) sc fr s)
 simp only[show¬(34:Int)=33 from by decide,show¬(34:Int)=32 from by decide,if_false,if_true]at hR;rw[<-Y]at hR y;obtain⟨bE,Z,m,bM⟩:=en (λW (hB:kW z W)=>Calls.vres (y W (aP.trans (hB.mono aP.size)))) aq lr ln;refine FR ?_;intro dB HBZ HM HO HE;have HZ:=lh hz;rw[hz]at c0;clear hz aD lf lr ln aq c1 c3 k0 bO aP aI ha hf h Y ho e0 hk im qW qX mq y;unfold ATree.ptr;go_enter func121,ntmps121
 go_wp2_with fail
 rw[<-HZ.o];clear c0;refine ow [(true,0),(true,1),(true,2),(true,3),(true,4),(true,5),(true,6),(true,7),(true,8),(false,9),(true,10),(true,11)] [12,13] (λW=>vC W w.heap.size 0 (.bool fr.strict)/\vC W w.heap.size 1 (vI fr.vars)/\vC W a.b 3 (.slice (some ⟨kg,0,none⟩) 1 kc)/\vC W kg 0 (vP o.b)) (Z.o _ _ (.drew (.refl _ _))) (λbq=>?_);refine f8 ?_;intro K hK;refine(bE.o _ (Zd _)).mono ?_;rintro e W1⟨M1,F,I,J,O,rfl,U⟩
 have p:=(MFr.drew (.refl M z)).trans U.2.1;refine hK _ _ (Z.o _ _ p) ?_;clear hK K;obtain⟨q0,q1,q2,z0,z1,z2⟩:=(m.o.fr p).six;have u:=lh U;have bw:=lh p;clear U p;refine B' ?_;subst hR;obtain⟨s1,q1⟩:=R;cases q1 with
 |error x1=>
   have ed:=lh (show ax C M1 W1 x1 O from u.o.2.2);go_wp2;refine Yp (v:=.tuple #[.agg #[vI F,vI I,.string J],O]) ?_ rfl ?_;·exact BG
   .exact .err m.o HBZ.o u.o.1 bw.o ed.o
 |ok v1=>
   obtain⟨rfl,rfl⟩:v1=⟨F,I,J⟩/\O=.nilIface:=u.o.2.2;go_wp2;refine Yp (v:=.tuple #[.agg #[vI F,vI I,.string J],.nilIface]) ?_ rfl ?_;·exact BG
   .exact .fine m.o HBZ.o u.o.1 bw.o
def Zsu(h:MAt C M w s)(ha:TreeAt w B a)(hf:a.free M)(hk:a.kind=35)
 (m:∀W,kW w W->kC 133 #[vP C.mb,vP a.b,vI sc,.agg #[.bool fr.strict,vI fr.vars]] W λe w'=>cK C M W (UO V D (a.nt C.N) sc fr s) e w') :
 kC 121 #[vP C.mb,a.ptr,vI sc,.agg #[.bool fr.strict,vI fr.vars]] w λe w'=>cK C M w (Cj V D (a.nt C.N) sc fr s) e w':=by
 refine Zj9 ?_;intro R hR;rw[<-hR];unfold Cj at hR;simp only[Zb,hk]at hR;refine OG ?_;intro aP lf lr ln z hz;rw[<-hz]at aP lf lr ln;refine Sp ?_;intro aD aI;have F:=ha.lt;have c0:=(aP.cell F).trans ha.c0;rw[hk]at c0;obtain⟨X,p⟩:=zX (UO V D (a.nt C.N) sc fr s)
 simp only[show¬(35:Int)=33 from by decide,show¬(35:Int)=32 from by decide,show¬(35:Int)=34 from by decide,if_false,if_true]at hR;rw[<-p]at hR m;obtain⟨bE,HLR,g⟩:=ds (Calls.vres (m z aP)) lr aP;obtain⟨u,y⟩:=lf.two;have I:=lh hz;rw[hz]at c0 u y;clear hz aD lf lr ln aP aI ha hf h p hk m;unfold ATree.ptr;go_enter func121,ntmps121
 go_wp2_with fail
 rw[<-I.o];clear c0 u y;refine Zwb ?_;intro W1 M1 k1 n1 t1 bL q0 q1 q2 z0 z1 z2 av;subst hR;obtain⟨s1,q1⟩:=R;cases q1 with
 |error J=>
   have O:=lh (show ax C M1 W1 J bL from av.o.2.2);go_wp2;refine Yp (v:=.tuple #[.agg #[vI k1,vI n1,.string t1],bL]) ?_ rfl ?_;·exact BG
   .exact .err HLR.o g.o av.o.1 av.o.2.1 O.o
 |ok U=>
   obtain⟨rfl,rfl⟩:U=⟨k1,n1,t1⟩/\bL=.nilIface:=av.o.2.2;go_wp2;refine Yp (v:=.tuple #[.agg #[vI k1,vI n1,.string t1],.nilIface]) ?_ rfl ?_;·exact BG
   .exact .fine HLR.o g.o av.o.1 av.o.2.1
def Zlg(cj:zm C V b)(hV:VH V b)(h:MAt C M w s)(hI:Inv s (d+1))(hA:FAt s sc fr)(hb:b<=s.steps)(hs:s.steps<=20000)(ha:TreeAt w B a)(hf:a.free M){o:ATree}(hk:a.kind=36)(ho:a.kids=[o])(wo:(o.nt C.N).wf .v)(mo:(o.nt C.N).tree.many<=1500) :
 kC 121 #[vP C.mb,a.ptr,vI sc,.agg #[.bool fr.strict,vI fr.vars]] w λe w'=>cK C M w (Cj V D (a.nt C.N) sc fr s) e w':=by
 refine Zj9 ?_;intro R hR;rw[<-hR];unfold Cj at hR;refine Zow ?_;intro e0;simp only[Zb,hk,e0,rH]at hR;refine OG ?_;intro aP lf lr ln z hz;rw[<-hz]at aP lf lr ln;refine Sp ?_;intro aD aI;obtain⟨O,kc,c3,cC,aR,bO,aX,eZ⟩:=ha.row hf Qp;rw[ho]at c3 cC bO;refine Zlx ?_;intro im k0 c1;simp only[List.length_cons,List.length_nil]at c3 cC;refine Zqr ?_;intro bN hob mq qW qX c0;rw[hk]at c0
 have aq:∀W M',MFr M M' z W->vC W w.heap.size 0 (.bool fr.strict)/\vC W w.heap.size 1 (vI fr.vars)/\vC W a.b 3 (.slice (some ⟨O,0,none⟩) 1 kc)/\vC W O 0 (vP o.b)/\vC W a.b 1 (.string a.text):=λW M' f=>
  have g:MFr M M' w W:=(MFr.of_below aP).trans f;⟨(lf.fr f).cell rfl,(lf.fr f).cell rfl,(g.cell bN hf.blk).trans c3,(g.cell aX eZ).trans k0,(g.cell bN hf.blk).trans c1⟩
 refine Wl ?_;intro r1 bz bE an;simp only[show¬(36:Int)=33 from by decide,show¬(36:Int)=32 from by decide,show¬(36:Int)=34 from by decide,show¬(36:Int)=35 from by decide,if_false,if_true,Zx]at hR;rw[<-bz]at bE an hR;refine Xv ?_;intro bI HR HS;have HLR:=lh lr;have U:=lh ln;refine FR ?_;intro dB HBZ HM HO HE;have HZ:=lh hz;rw[hz]at c0;clear hz aD lf lr ln aq c1 c3 k0 bO aP aI ha hf h hI hA bz an hR ho e0 hk im qW qX mq;unfold ATree.ptr;go_enter func121,ntmps121
 go_wp2_with fail
 rw[<-HZ.o];clear c0
 refine vy (.take 0 (.take 1 (.take 2 (.take 3 (.take 4 (.take 5 (.take 6 (.take 7 (.take 8 (.two 9 (.take 10 (.take 11 (.take 12 (.go 13 (.go 14 (.go 15 (.nil))))))) 13 (.go 9 (.take 10 (.take 11 (.take 12 (.go 14 (.go 15 (.nil))))))))))))))))) 14 (λW=>vC W w.heap.size 0 (.bool fr.strict)/\vC W w.heap.size 1 (vI fr.vars)/\vC W a.b 3 (.slice (some ⟨O,0,none⟩) 1 kc)/\vC W O 0 (vP o.b)/\vC W a.b 1 (.string a.text)) (HS.o _ _ (MFr.drew (.refl _ _))) ?_
 refine qa ?_;refine Zr ?_;apply Sx (H:=ru C w M z r1);·exact SU HS bE HE.o HO.o
 .exact Oz HS bE HM HE.o HO.o
 intro W1 p1 M1 k1 F t1 bL ah;have I:=ah.1.2.1;have bw:=lh I;obtain⟨s1,q1⟩:=r1;cases q1 with
 |error x1=>
   refine Xb ?_;intro he av hR;simp only at hR;subst hR;obtain⟨T1,P1,rfl,hP⟩:=he.ne;have ed:=lh he;obtain⟨q0,q1,q2,z0,z1,z2⟩:=(HLR.o.fr I).six;obtain⟨m0,m1,m2,-,-,-⟩:=(U.o.fr I).six;clear ah he HR I;go_wp2;refine Yp (v:=.tuple #[.agg #[vI 0,vI 0,.string ⟨#[]⟩],.iface T1 (.pointer P1)]) ?_ rfl ?_;·exact BG
   .exact Zsy
 |ok v1=>
   obtain⟨rfl,rfl⟩:v1=⟨k1,F,t1⟩/\bL=.nilIface:=ah.1.2.2;have hR:=HR.o;simp only at hR;obtain⟨c0,c1,c2,-,-,-⟩:=ah.2.six;have Y:=lh ah.1.1;have av:=lh ah;clear ah I HR;by_cases h5:k1=5
   .subst h5;simp only[if_true,d9]at hR
    have J:=lh (show∀p M',MFr M1 M' W1 p->vC p p1 1 (vI F)/\vC p a.b 1 (.string a.text)from
     λp M' f=>⟨(av.o.2.fr f).cell rfl,(HS.o p M' (bw.o.trans f)).2.2.2.2⟩)
    have y:=Ac9 Y.o.drew F a.text;obtain⟨G,hG⟩:=zX (s1.H.get F a.text)
    rw[<-hG]at y hR;obtain⟨⟨gk,gn,gt⟩,JO⟩:∃v,v=G.getD LVal.zero:=⟨_,rfl⟩
    rw[<-JO]at y hR;simp only[LVal.agg]at y;obtain⟨gb,gJ⟩:=zX G.isSome
    rw[<-gJ]at y;have HG:=lh y;clear y hG JO gJ;subst hR;go_wp2_with fail
    refine vy (.take 0 (.take 1 (.take 2 (.take 3 (.take 4 (.take 5 (.take 6 (.take 7 (.take 8 (.go 9 (.take 10 (.take 11 (.take 12 (.go 13 .nil)))))))))))))) 13 (λW=>vC W p1 1 (vI F)/\vC W a.b 1 (.string a.text)) (J.o _ _ (.drew (.refl _ _))) ?_;refine qa ?_;refine o4 (λK hK=>?_);refine HG.o.mono ?_;rintro e W2⟨rfl,ar⟩;have Z:=(Zd W1).trans (ar.mono (Y0 _));refine hK _ _ (J.o _ _ (.of_below Z)) ?_;clear hK K c0 c1 c2;obtain⟨c0,c1,c2,d0,d1,d2⟩:=(av.o.2.bel Z).six;have aN:=lh Z
    clear ar Z;refine Ux ?_;obtain⟨y1,y2,y3,y4⟩:=(av.o.2.bel aN.o).fill (x':=(vI gk)) (y':=(vI gn)) (z':=.string gt) (Y.o.below aN.o) (MFr.trans bw.o (.of_below aN.o)) av.o.2.late;have u:=lh (Yu y1 (Yu y2 y3));clear y1 y2 y3 y4;refine Vu ?_;have aG:w.heap.size+1≠p1:=by have:=av.o.2.late;have h2:=HE.o;rw[HZ.o]at this;simp at this;omega
    obtain⟨q0,q1,q2,z0,z1,z2⟩:=(HLR.o.fr (bw.o.trans (.of_below aN.o))).six;have r0:=(HLR.o.fr u.o.2.1).cell (i:=0) rfl;have r1:=(HLR.o.fr u.o.2.1).cell (i:=1) rfl;have r2:=(HLR.o.fr u.o.2.1).cell (i:=2) rfl;have u0:=u.o.2.2.cell (i:=0) rfl;have u1:=u.o.2.2.cell (i:=1) rfl;have u2:=u.o.2.2.cell (i:=2) rfl;have v0:=(HLR.o.fr u.o.2.1).fz 0;have v1:=(HLR.o.fr u.o.2.1).fz 1;have v2:=(HLR.o.fr u.o.2.1).fz 2;go_wp2
    refine Yp (v:=.tuple #[.agg #[vI gk,vI gn,.string gt],.nilIface]) ?_ rfl ?_;·simp[results,results121,go_sem,r0,r1,r2]
    .exact .fine HLR.o HBZ.o u.o.1 u.o.2.1
   .have b5:(k1 !=5)=true:=by simp[h5]
    simp only[h5,if_false,tE,r']at hR;subst hR;clear h5;have HP:=lh (Sf Y.o.drew wW)
    have J:=lh (show∀p M',MFr M1 M' W1 p->vC p (w.heap.size+1+1) 0 (vI 0)/\vC p (w.heap.size+1+1) 1 (vI 0)/\vC p (w.heap.size+1+1) 2 (.string ⟨#[]⟩)from
     λp M' f=>⟨(U.o.fr (bw.o.trans f)).cell rfl,(U.o.fr (bw.o.trans f)).cell rfl,(U.o.fr (bw.o.trans f)).cell rfl⟩)
    go_wp2_with fail
    refine ow [(true,0),(false,1)] [2,3] (λW=>vC W (w.heap.size+1+1) 0 (vI 0)/\vC W (w.heap.size+1+1) 1 (vI 0)/\vC W (w.heap.size+1+1) 2 (.string ⟨#[]⟩)) (J.o _ _ (.drew (.refl _ _))) (λbq=>?_);refine f8 ?_;intro K hK;refine Ztf ?_;intro W3 fg jZ hB3 hF3';refine hK _ _ (J.o _ _ hF3') ?_;clear hK K c0 c1 c2;obtain⟨q0,q1,q2,z0,z1,z2⟩:=(HLR.o.fr (bw.o.trans hF3')).six;obtain⟨dE,bK,iN⟩:=ds (Y.o.drew.below hB3) (bw.o.trans hF3') jZ;clear hF3' jZ hB3
    refine Z0 ?_;go_wp2;refine Yp (v:=.tuple #[.agg #[vI 0,vI 0,.string ⟨#[]⟩],fg]) ?_ rfl ?_;·exact BG
    .exact Zug
def Zns(cj:zm C V b)(hV:VH V b)(h:MAt C M w s)(hI:Inv s (d+1))(hA:FAt s sc fr)(hb:b<=s.steps)(hs:s.steps<=20000)(ha:TreeAt w B a)(hf:a.free M){o:ATree}(hk:a.kind=33)(ho:a.kids=[o])(wo:(o.nt C.N).wf .v)(mo:(o.nt C.N).tree.many<=1500) :
 kC 121 #[vP C.mb,a.ptr,vI sc,.agg #[.bool fr.strict,vI fr.vars]] w λe w'=>cK C M w (Cj V D (a.nt C.N) sc fr s) e w':=by
 refine Zj9 ?_;intro R hR;rw[<-hR];unfold Cj at hR;refine Zow ?_;intro e0;simp only[Zb,hk,e0,rH]at hR;refine OG ?_;intro aP lf lr ln z hz;rw[<-hz]at aP lf lr ln;refine Sp ?_;intro aD aI;obtain⟨kg,kc,c3,U,aR,bO,Y,eZ⟩:=ha.row hf Qp;rw[ho]at c3 U bO;refine Zlx ?_;intro im k0 c1;simp only[List.length_cons,List.length_nil]at c3 U;refine Zqr ?_;intro bN hob mq qW qX c0;rw[hk]at c0
 have aq:∀W M',MFr M M' z W->vC W w.heap.size 0 (.bool fr.strict)/\vC W w.heap.size 1 (vI fr.vars)/\vC W a.b 3 (.slice (some ⟨kg,0,none⟩) 1 kc)/\vC W kg 0 (vP o.b)/\vC W o.b 0 (vI o.kind)/\vC W o.b 1 (.string o.text):=λW M' f=>
  have g:MFr M M' w W:=(MFr.of_below aP).trans f;⟨(lf.fr f).cell rfl,(lf.fr f).cell rfl,(g.cell bN hf.blk).trans c3,(g.cell Y eZ).trans k0,(g.cell hob mq.blk).trans qW,(g.cell hob mq.blk).trans qX⟩
 refine Wl ?_;intro r1 bz bE an;simp only[if_true,Zx]at hR;rw[<-bz]at bE an hR;obtain⟨y,Z⟩:=zX (s.H.find sc o.text)
 have F:=Zds aD.drew.heap hI.wf sc o.text;rw[<-Z]at F hR;have oF:=lh F;refine Xv ?_;intro bI HR HS;have HLR:=lh lr;have bM:=lh ln;refine FR ?_;intro dB HBZ HM HO HE;have HZ:=lh hz;have I:=(aP.cell bN).trans c3;have J:=(aP.cell Y).trans k0;rw[hz]at c0 I J;clear hz aD lf lr ln aq c1 c3 k0 bO aP aI ha hf h hI hA bz an hR ho e0 hk im qW qX mq F Z;unfold ATree.ptr;by_cases p:o.kind=23/\y<0
 .have JP:(o.kind==23)=true:=by simp[p.1]
  have Mz:decide (y<0)=true:=decide_eq_true p.2;have am:R=(s,.ok ⟨4,0,XJ⟩):=by rw[HR.o,Y5 p];rfl
  clear HR p;subst am;go_enter func121,ntmps121
  go_wp2_with fail
  rw[<-HZ.o];clear c0 I J;refine AaR ?_;intro bq;go_wp2_with fail
  refine oF.o.mono ?_;rintro e W1⟨rfl,aO⟩;have av:=lh ((Zd z).trans (aO.mono (Y0 _)));have iY:=Zbe W1 XJ;simp only[LVal.agg]at iY;have Dw:=lh iY;clear aO iY;go_wp2_with fail
  refine Dw.o.mono ?_;rintro e W2⟨rfl,ar⟩;have hB3:=av.o.trans (ar.mono av.o.size);obtain⟨q0,q1,q2,z0,z1,z2⟩:=(HLR.o.bel hB3).six;have u:=lh hB3;clear ar hB3;go_wp2;refine Yp (v:=.tuple #[.agg #[vI 4,vI 0,.string XJ],.nilIface]) ?_ rfl ?_;·exact BG
  .exact .fine HLR.o HBZ.o (HM.o.below u.o) (.of_below u.o)
 .have am:=HR.o;rw[Y3 p]at am;have df:(o.kind==23)=false\/(o.kind==23)=true/\decide (y<0)=false:=by
   by_cases h1:o.kind=23;·exact .inr ⟨by simp[h1],decide_eq_false λh2=>p ⟨h1,h2⟩⟩
   .exact .inl Sc
  have HR:=lh am;clear am p;have O:∀(Wx:kV),kW z Wx->True:=λ_ _=>trivial;clear O;rcases df with JP|⟨JP,Mz⟩
  all_goals
   go_enter func121,ntmps121
   go_wp2_with fail
   rw[<-HZ.o];clear c0 I J;refine AaR ?_;intro bq;go_wp2_with fail
  .obtain⟨W0,JQ,jF⟩:∃W0,W0=z.drew/\Hid (kW z W0):=⟨_,rfl,lh (Zd z)⟩
   rw[<-JQ];clear JQ;exact Abt
  .refine oF.o.mono ?_;rintro e W0⟨rfl,cu⟩;have jF:=lh ((Zd z).trans (cu.mono (Y0 _)));clear cu;go_wp2_with fail
   exact Abt
def Zkl{V:VF}{o:Int}{k:NT}{l:List NT}:TD V sc fr o (k::l) s=match V (k.kid 0) sc fr s with
 |(s1,.ok v)=>TD V sc fr o l (s1.put o k.text v false)
 |(s1,.error e)=>(s1,.error e):=by
 simp only[TD,Zx];rcases V (k.kid 0) sc fr s with⟨s1,e|v⟩<;>rfl
def Zoa(cj:zm C V b)(hV:VH V b)(h:MAt C M w s)(hI:Inv s (d+a.kids.length+1))(hA:FAt s sc fr)(hb:b<=s.steps)(hs:s.steps<=20000)(ha:TreeAt w B a)(hf:a.free M)(hk:a.kind=38)(hn:a.kids.length<=1500)(bD:∀x∈a.kids,∃o,x.kids=[o]/\(o.nt C.N).wf .v/\(o.nt C.N).tree.many<=1500) :
 kC 121 #[vP C.mb,a.ptr,vI sc,.agg #[.bool fr.strict,vI fr.vars]] w λe w'=>cK C M w (Cj V D (a.nt C.N) sc fr s) e w':=by
 refine Zj9 ?_;intro R hR;rw[<-hR];unfold Cj at hR;simp only[Zb,hk,Zu]at hR;simp only[show¬(38:Int)=33 from by decide,show¬(38:Int)=32 from by decide,show¬(38:Int)=34 from by decide,show¬(38:Int)=35 from by decide,show¬(38:Int)=36 from by decide,if_false,if_true]at hR;obtain⟨ob,hob⟩:=zX s.nextO
 rw[<-hob]at hR;refine OG ?_;intro aP lf lr ln z hz;rw[<-hz]at aP lf lr ln;refine Sp ?_;intro aD aI;have bN:=ha.lt;have c0:=(aP.cell bN).trans ha.c0;rw[hk]at c0;obtain⟨q,hq⟩:=zX a.kids.length
 obtain⟨P,I⟩:=zX a.kids
 rw[<-I]at bD;obtain⟨eE,y⟩:=hI.object (d:=d+a.kids.length) (code:=0) Py Px;have jK:=Zad aD hI 0;rw[<-hob]at jK;obtain⟨s0,gL⟩:=zX (s.object 0)
 rw[<-gL]at jK hR eE y;rw[<-hq]at eE hn;have AB:s0.steps=s.steps:=by rw[gL];rfl
 have qu:=aI.rowOf;obtain⟨pp,cp,cg,bU,ej,cU⟩:=ll.slice qu;rw[<-hq]at cg bU;rw[<-I]at cU;have c3:=ha.c3;rw[cg]at c3;have d3:=(aP.cell bN).trans c3;have am:R=match TD V sc fr ob (P.map (ATree.nt C.N)) s0 with
  |(s1,.ok _)=>(s1,.ok (.ref ob))
  |(s1,.error e)=>(s1,.error e):=by
  rw[hR,I];simp only[Zx,d9,AC];rcases TD V sc fr ob (a.kids.map (ATree.nt C.N)) s0 with⟨s1,e|v⟩<;>rfl
 obtain⟨kS,MA,ii,FH,mQ,F,bM⟩:=gw jK y eE AB am lr ln;refine FR ?_;intro dB HBZ HM HO HE;obtain⟨ft,dW,HA,pP,qv,tU,HP,HQ,oV,HV,du⟩:=nG aI hf hA bD cg cU I (show q=P.length by rw[hq,I]) cj hV (Yu hb hs);rw[hz]at c0;have HZ:=lh hz;have ni:q<=9223372036854775807:=Px
 clear hz aD lf lr ln aP aI ha hf h hI hA hR am hk hob jK gL eE y AB qu cg cU I hq bD cj hV hb hs c3;unfold ATree.ptr;go_enter func121,ntmps121
 go_wp2_with fail
 rw[<-HZ.o];clear c0;refine kS.o.mono ?_;rintro e w1⟨rfl,M1,dY,cZ⟩;have e3:=(cZ.tree ft.o dW.o).1.c3;rw[qv.o]at e3;have bT:=lh dY;have bw:=lh cZ;clear dY cZ d3;go_wp2_with fail
 go_loopw [166] (λi wr=>∃(k:Nat) (Mk:MRep) (u:MSt),k<=q/\i=(vI k)/\Hid (MAt C Mk wr u)/\Hid (MFr M Mk z wr)/\Hid (Inv u (d+(q-k)))/\Hid (Ext s u/\u.steps<=20000)/\Hid (R=match TD V sc fr ob ((P.drop k).map (ATree.nt C.N)) u with
  |(s1,.ok _)=>(s1,.ok (.ref ob))
  |(s1,.error e)=>(s1,.error e))) (λi _=>q-(intOf i).toNat)
 case atStart=>exact⟨0,M1,s0,Yh _,rfl,bT,bw,lh (by rw[Nat.sub_zero];exact ii.o),lh ⟨MA.o,by rw[FH.o];exact du.o.2⟩,lh (by rw[List.drop_zero];exact mQ.o)⟩
 case round=>
  obtain⟨k,Mk,u,hk,rfl,J,g,ep,dG,O⟩:=hrel;by_cases bX:k<q
  .obtain⟨x,hx⟩:∃x,P[k]? =some x:=⟨_,Y6 QH⟩
   obtain⟨g0,hp⟩:=tU.o k x hx;subst hp;have aT:x∈P:=Yd hx;have bJ:x∈a.kids:=by rw[<-HP.o];exact aT
   obtain⟨o,y,wo,mo⟩:=pP.o x aT;have dP:=g.o.tree ft.o dW.o;have ae:=dP.1.rowOf;rw[qv.o]at ae;have cx:wr.cell? ⟨g0,k,none⟩=some (vP x.b):=ll.cell ae (b:=g0) rfl (by rw[<-HP.o];exact hx);have mh:=dP.1.kid bJ;have fR:=dP.2.kid bJ;obtain⟨xg,xc,U,dI,sq,cD,jn,vK⟩:=mh.row fR (by rw[y];simp);rw[y]at U dI cD;have im:o∈x.kids:=by rw[y];simp
   have x0:=cD 0 o rfl;have sG:=mh.c1;simp only[List.length_cons,List.length_nil]at U dI;have g9:=mh.lt;obtain⟨r1,bz⟩:=zX (V (o.nt C.N) sc fr u)
   have fU:=dG.o;have gz:b<=u.steps:=Int.le_trans du.o.1 fU.1.steps;have bE:=lh (oV.o.from J.o ep.o (HA.o.ext fU.1) gz fU.2 wo mo (mh.kid im) (fR.kid im));have an:=(HV.o (o.nt C.N) sc fr u _ wo mo ep.o (HA.o.ext fU.1) gz fU.2).1;have hR:=O.o;rw[show P.drop k=x::P.drop (k+1) by
    obtain⟨hl,he⟩:=List.getElem?_eq_some_iff.1 hx;rw[Yt hl,he],List.map_cons,Zkl,wX (show x.kids[0]?=some o by rw[y];rfl),rH]at hR
   rw[<-bz]at bE an hR;have HS:=lh (show∀W M',MFr Mk M' wr W->vC W w.heap.size 0 (.bool fr.strict)/\vC W w.heap.size 1 (vI fr.vars)/\vC W x.b 3 (.slice (some ⟨xg,0,none⟩) 1 xc)/\vC W xg 0 (vP o.b)/\vC W x.b 1 (.string x.text)from λW M' f=>
    ⟨(dB.o.fr (g.o.trans f)).cell rfl,(dB.o.fr (g.o.trans f)).cell rfl,(f.cell g9 fR.blk).trans U,(f.cell jn vK).trans x0,(f.cell g9 fR.blk).trans sG⟩)
   obtain⟨HR,bI,qw⟩:=ds hR an (Y4 HE.o g.o.size);clear hR an bz dP ae mh fR cD U x0 sG aT bJ y im fU gz wo mo;go_wp2_with fail
   refine vy (.take 0 (.take 1 (.take 2 (.take 3 (.take 4 (.take 5 (.take 6 (.take 7 (.take 8 (.two 9 (.take 10 (.take 11 (.take 12 (.go 13 (.go 14 (.go 15 (.nil))))))) 13 (.go 9 (.take 10 (.take 11 (.take 12 (.go 14 (.go 15 (.nil))))))))))))))))) 14 (λW=>vC W w.heap.size 0 (.bool fr.strict)/\vC W w.heap.size 1 (vI fr.vars)/\vC W x.b 3 (.slice (some ⟨xg,0,none⟩) 1 xc)/\vC W xg 0 (vP o.b)/\vC W x.b 1 (.string x.text)) (HS.o _ _ (MFr.drew (.refl _ _))) ?_
   refine qa ?_;refine Zr ?_;apply Sx (H:=ru C w Mk wr r1);·exact SU HS bE qw.o HO.o
   .exact Zys HS bE J qw.o HO.o
   intro W1 p1 M2 Y Z t1 bL p;have F1:=g.o.trans p.1.2.1;have ba:=lh F1;obtain⟨s1,q1⟩:=r1;cases q1 with
   |error x1=>
     have he:ax C M2 W1 x1 bL:=p.1.2.2;have av:=lh p;have am:R=(s1,.error x1):=HR.o;subst am;obtain⟨T1,P1,rfl,I⟩:=he.ne;have ed:=lh he;obtain⟨q0,q1,q2,z0,z1,z2⟩:=(F.o.fr F1).six;obtain⟨m0,m1,m2,-,-,-⟩:=(bM.o.fr F1).six;clear p he HR F1;go_wp2;refine Yp (v:=.tuple #[.agg #[vI 0,vI 0,.string ⟨#[]⟩],.iface T1 (.pointer P1)]) ?_ rfl ?_;·exact BG
     .exact .err F.o HBZ.o av.o.1.1 ba.o ed.o
   |ok v1=>
     obtain⟨rfl,rfl⟩:v1=⟨Y,Z,t1⟩/\bL=.nilIface:=p.1.2.2;obtain⟨i1,x1,-,em,i2⟩:=bI.o;have hR:=HR.o;simp only at hR;have fK:Inv s1 (d+(q-(k+1))+1):=i1.less Px;have hpt:=B7 p.1.1.drew fK ob x.text ⟨Y,Z,t1⟩ false;simp only[LVal.agg]at hpt;have kp:=lh hpt;obtain⟨i3,U⟩:=Ez (d:=d+(q-(k+1))) (o:=ob) (name:=x.text) (v:=⟨Y,Z,t1⟩) (fx:=false) fK em;have nT:=lh i3
     have FJ:=lh (show Ext s (s1.put ob x.text ⟨Y,Z,t1⟩ false)/\(s1.put ob x.text ⟨Y,Z,t1⟩ false).steps<=20000 from⟨(dG.o.1.trans x1).trans U,i2⟩)
     have bW:=lh (show∀W M',MFr M2 M' W1 W->vC W p1 0 (vI Y)/\vC W p1 1 (vI Z)/\vC W p1 2 (.string t1)/\vC W x.b 1 (.string x.text)from
      λW M' f=>⟨(p.2.fr f).cell rfl,(p.2.fr f).cell rfl,(p.2.fr f).cell rfl,(HS.o W M' (p.1.2.1.trans f)).2.2.2.2⟩)
     have dQ:=lh hR;clear p F1 hR HR i1 x1 em i2 hpt fK i3 U;go_wp2_with fail
     refine ow [(true,0),(true,1),(true,2),(true,3),(true,4),(true,5),(true,6),(true,7),(true,8)] [9] (λW=>vC W p1 0 (vI Y)/\vC W p1 1 (vI Z)/\vC W p1 2 (.string t1)/\vC W x.b 1 (.string x.text)) (bW.o _ _ (.drew (.refl _ _))) (λbq=>?_);refine oK ?_;refine Z0 ?_;go_wp2_with fail
     refine kp.o.mono ?_;rintro e w3⟨rfl,M3,dC,bg⟩;have dE:=lh dC;have bK:=lh (ba.o.trans ((MFr.drew (.refl M2 W1)).trans bg));clear dC bg;go_wp2_with fail
     go_roundw
     case rel=>exact⟨k+1,M3,_,by omega,by go_num,dE,bK,nT,FJ,dQ⟩
     case measure=>simp[intOf];omega
  .have aR:k=q:=by omega
   subst aR;have hR:=O.o;rw[List.drop_eq_nil_of_le QT]at hR;have am:R=(u,.ok ⟨5,ob,⟨#[]⟩⟩):=hR;subst am;obtain⟨q0,q1,q2,z0,z1,z2⟩:=(F.o.fr g.o).six;clear hR O;go_wp2;refine Yp (v:=.tuple #[.agg #[vI 5,vI ob,.string ⟨#[]⟩],.nilIface]) ?_ rfl ?_;·exact BG
   .exact .fine F.o HBZ.o J.o g.o
end
