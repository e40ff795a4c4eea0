import Derived.Test.YtkjdnecemhilpaaGreatDoorJ19
import Derived.Lib.ItoaLen
set_option maxRecDepth 100000
set_option maxHeartbeats 20000000
set_option linter.all false
namespace Go.Proofs.YtkjdnecemhilpaaGreatDoor
open Go Go.RowKit Go.Proofs.Tryz Tryz
theorem Wl:Tryz.prog.underlying 71=some (.struct (Tryz.prog.fieldsOf 71)):=by kernel_rfl
theorem AbS:Tryz.prog.stoodInHeld 71=false:=by kernel_rfl
theorem flV:(Tryz.prog.fieldsOf 71).toList=[⟨"Kind",3,0,false, "", "",0⟩,⟨"N",3,1,false, "", "",8⟩,⟨"S",9,2,false, "", "",16⟩]:=by kernel_rfl
def Zrp(w:kV)(k n g m:Int)(t t':kB):(binOp .eql 71 (.agg #[vI k,vI n,.string t]) (.agg #[vI g,vI m,.string t'])).run Tryz.prog w=.ok (.bool (LVal.same ⟨k,n,t⟩ ⟨g,m,t'⟩)) w:=by
 rw[run_eql_struct,run_equalIn_agg w 9999 _ _ _ Wl AbS,flV];have p:=Yk;have u2:=Yj;have o:∀w,(Op.equalIn 9999 3 (vI k) (vI g)).run Tryz.prog w=.ok (k==g) w:=λw=>run_equalIn_int w 9998 _ _ _ _ _ p;have i2:∀w,(Op.equalIn 9999 3 (vI n) (vI m)).run Tryz.prog w=.ok (n==m) w:=λw=>run_equalIn_int w 9998 _ _ _ _ _ p;have i3:∀w,(Op.equalIn 9999 9 (.string t) (.string t')).run Tryz.prog w=.ok (t.toList==t'.toList) w:=λw=>run_equalIn_string w 9998 _ _ _ u2
 by_cases hk:k=g
 .by_cases hn:n=m
  .simp[go_sem,o,i2,i3,hk,hn,LVal.same,TZ];cases Zh t t'<;>rfl
  .simp[go_sem,o,i2,i3,hk,hn,LVal.same]
 .simp[go_sem,o,i2,i3,hk,LVal.same]
theorem bytesLess_eq:∀a b:List UInt8,Op.bytesLess a b=decide (a<b)
 | [],[]=>by simp[Op.bytesLess]
 | [],_::_=>by simp[Op.bytesLess]
 |_::_,[]=>by simp[Op.bytesLess]
 |x::a,y::b=>by
   simp[Op.bytesLess,List.cons_lt_cons_iff,bytesLess_eq a b];by_cases g:x=y<;>simp[g]
def V0(w:kV)(b:Bool) :
 kC 119 #[.bool b] w λe w'=>e=.returned (.agg #[vI 2,vI (if b then 1 else 0),.string ⟨#[]⟩])/\kW w w':=by
 cases b
 .go_enter func119,ntmps119
  go_wp2;exact Yp (v:=.agg #[vI 2,vI 0,.string ⟨#[]⟩]) (by simp[results,results119,go_sem]) rfl ⟨rfl,Z2 _ _⟩
 .go_enter func119,ntmps119
  go_wp2;exact Yp (v:=.agg #[vI 2,vI 1,.string ⟨#[]⟩]) (by simp[results,results119,go_sem]) rfl ⟨rfl,Z2 _ _⟩
section
variable {C:RCtx}{M M':MRep}{w w':kV}{s s':MSt}{B:Nat}{a:ATree}{V:VF}{D:DF}{b:Int}{sc:Int}{fr:Frm}{d:Nat}
def Zdk{v:LVal}{k:Nat}(h:v.ok k)(hk:k<=1000000000):-9223372036854775808<=v.n/\v.n<=9223372036854775807:=by
 by_cases h5:v.kind=5;·have:=h.2.2.2.2 h5;omega
 .have:=h.2.2.2.1 h5;omega
def Z8u(H:LHeap){k:Nat}{v:LVal}(h:v.ok k)(hk:k<=1000000000):(H.shown v).size<=8388608:=by
 have hs:=h.2.2.1;have hb:=Zdk h hk;have:=Lib.itoa_length_le v.n hb.1 hb.2;unfold LHeap.shown;split;·decide
 split;·decide
 split;·split<;>decide
 split
 .simp[ByteArray.size];omega
 split;·omega
 split<;>decide
theorem Inv.objs(h:Inv s d):s.H.objects.length<=1000000000:=by have:=h.szO;have:=h.steps;omega
def Zpt(m:K' C.w0)(h:MAt C M w s)(hI:Inv s d)(v:LVal)(g:v.ok s.H.objects.length):kC 29 #[vP C.mb,v.agg] w λe w'=>e=.returned (.string (s.H.shown v))/\kW w w':=
 Zqa h.heap v (Zdk g hI.objs).1 (Zdk g hI.objs).2 (m.below h.old)
def Zft(gm:K' C.w0)(h:MAt C M w s)(hI:Inv s d)(u:Int)(x y:LVal)(hx:x.ok s.H.objects.length)(hy:y.ok s.H.objects.length) :
 kC 123 #[vP C.mb,vI u,.agg #[vI x.kind,vI x.n,.string x.s],.agg #[vI y.kind,vI y.n,.string y.s]] w λe w'=>bK C M w (Wc u x y s) e w':=by
 obtain⟨R,hR⟩:=zX (Wc u x y s)
 rw[<-hR];obtain⟨o,g,F⟩:=x;obtain⟨p,m,I⟩:=y;simp only;have b1:=Z2 w (vO o g F);have l1:=Lo.new (wE:=w) h (Y0 _) h.old.size #[vI o,vI g,.string F] 71;have b2:=b1.trans ((Z2 (w.alloc (vO o g F)) (vO p m I)).mono b1.size);have l2:=Lo.new (wE:=w) (h.below b1) b1.size h.old.size #[vI p,vI m,.string I] 71;have l3:=Lo.new (wE:=w) (h.below b2) b2.size h.old.size #[vI 0,vI 0,.string ⟨#[]⟩] 71;have b3:=b2.trans ((Z2 ((w.alloc (vO o g F)).alloc (vO p m I)) (vO 0 0 ⟨#[]⟩)).mono b2.size)
 replace l1:=(l1.bel (Z2 _ (vO p m I))).bel (Z2 _ (vO 0 0 ⟨#[]⟩))
 replace l2:=l2.bel (Z2 _ (vO 0 0 ⟨#[]⟩))
 unfold vO at b3 l1 l2 l3;simp only[World.size_alloc]at l2 l3;obtain⟨z,hz⟩:=zX (((w.alloc (.cells #[vI o,vI g,.string F] 71)).alloc (.cells #[vI p,vI m,.string I] 71)).alloc (.cells #[vI 0,vI 0,.string ⟨#[]⟩] 71))
 rw[<-hz]at b3 l1 l2 l3;have aE:=h.below b3;obtain⟨HLR,HBZ,HM,Ic⟩:=gp l3 b3 aE (λt W (hB:kW z W)=>LW (aE.below hB) t);have hb:=λn=>Zh0 aE n;have xT:=lh hb;have hi:=λb=>V0 z b;obtain⟨FY,ro,nH,AK⟩:=gp hi (λW (hB:kW z W)=>Zpt gm (aE.below hB) hI ⟨o,g,F⟩ hx) (λW (hB:kW z W)=>Zpt gm (aE.below hB) hI ⟨p,m,I⟩ hy) (Yu (Z8u s.H hx hI.objs) (Z8u s.H hy hI.objs))
 have oM:=lh (show o≠5->-1000000000<=g/\g<=1000000000 from hx.2.2.2.1);have oU:=lh (show p≠5->-1000000000<=m/\m<=1000000000 from hy.2.2.2.1)
 have HS:=lh (show∀W M',MFr M M' z W->vC W w.heap.size 0 (vI o)/\vC W w.heap.size 1 (vI g)/\vC W w.heap.size 2 (.string F)/\vC W (w.heap.size+1) 0 (vI p)/\vC W (w.heap.size+1) 1 (vI m)/\vC W (w.heap.size+1) 2 (.string I)from
  λW M' f=>⟨(l1.fr f).cell rfl,(l1.fr f).cell rfl,(l1.fr f).cell rfl,(l2.fr f).cell rfl,(l2.fr f).cell rfl,(l2.fr f).cell rfl⟩)
 obtain⟨x0,x1,x2,y0,y1,y2⟩:=HS.o z M (.refl _ _);rw[hz]at x0 x1 x2 y0 y1 y2;have HZ:=lh hz;simp only[LVal.agg]at ro nH;have ud:∀a b:kB,Op.bytesLess a.toList b.toList=Zpn a b:=λa b=>by rw[bytesLess_eq];rfl
 clear hz aE l1 l2 l3 b1 b2 b3 hb hi h hI hx hy gm;by_cases J:u=27
 .subst J;simp only[Wc,if_true]at hR;obtain⟨bb,rl⟩:=zX (LVal.same ⟨o,g,F⟩ ⟨p,m,I⟩)
  rw[<-rl]at hR;have j9:∀w,(binOp .eql 71 (.agg #[vI o,vI g,.string F]) (.agg #[vI p,vI m,.string I])).run Tryz.prog w=.ok (.bool bb) w:=λw=>by rw[rl];exact Zrp w _ _ _ _ _ _
  clear rl;obtain⟨ib,ej⟩:∃ib:Int,ib=if(bb)=true then 1 else 0:=⟨_,rfl⟩
  have an:R=(s,.ok ⟨2,ib,⟨#[]⟩⟩):=Sl
  have h1:=FY.o (bb);exact YG
 have J5:(u==27)=false:=by simp[J]
 by_cases bH:o=3/\p=3
 .obtain⟨rfl,rfl⟩:=bH;have hx:=oM.o Qg;have hy:=oU.o Qg;clear oM oU ud;have og:-1000000000000000000<=g*m/\g*m<=1000000000000000000:=by
   have h1:g.natAbs<=1000000000:=Qe
   have h2:m.natAbs<=1000000000:=Qe
   have h3:(g*m).natAbs<=1000000000*1000000000:=by rw[Int.natAbs_mul];exact Nat.mul_le_mul h1 h2
   omega
  simp only[Wc,if_neg J,and_self,if_true]at hR;by_cases O:u=28
  .subst O;simp only[if_true]at hR;clear hx hy og J;obtain⟨ib,ej⟩:∃ib:Int,ib=if(decide (g<m))=true then 1 else 0:=⟨_,rfl⟩
   have an:R=(s,.ok ⟨2,ib,⟨#[]⟩⟩):=Sl
   have h1:=FY.o (decide (g<m));exact YG
  have J8:(u==28)=false:=by simp[O]
  rw[Y3 O]at hR;by_cases jO:u=29
  .subst jO;simp only[if_true]at hR;have wr:IntKind.i64.wrap (g+m)=g+m:=Yv _ Qe;clear hx hy og J O;go_enter func123,ntmps123
   go_wp2_with fail
   rw[<-HZ.o];clear x0 x1 x2 y0 y1 y2;refine(Calls.vres (xT.o (g+m))).mono ?_;rintro e w1⟨M1,k1,n1,t1,bQ,rfl,Z⟩;obtain⟨q0,q1,q2,z0,z1,z2⟩:=(HLR.o.fr Z.2.1).six;have au:=lh Z;clear Z;obtain⟨R0,mH⟩:=zX (Vp (g+m) s)
   exact ZW
  have MS:(u==29)=false:=by simp[jO]
  rw[Y3 jO]at hR;by_cases sK:u=30
  .subst sK;simp only[if_true]at hR;have wr:IntKind.i64.wrap (g-m)=g-m:=Yv _ Qe;clear hx hy og J O jO;go_enter func123,ntmps123
   go_wp2_with fail
   rw[<-HZ.o];clear x0 x1 x2 y0 y1 y2;refine(Calls.vres (xT.o (g-m))).mono ?_;rintro e w1⟨M1,k1,n1,t1,bQ,rfl,Z⟩;obtain⟨q0,q1,q2,z0,z1,z2⟩:=(HLR.o.fr Z.2.1).six;have au:=lh Z;clear Z;obtain⟨R0,mH⟩:=zX (Vp (g-m) s)
   exact ZW
  have Pt:(u==30)=false:=by simp[sK]
  rw[Y3 sK]at hR;have wr:IntKind.i64.wrap (g*m)=g*m:=Yv _ Qe;clear hx hy og J O jO sK;go_enter func123,ntmps123
  go_wp2_with fail
  rw[<-HZ.o];clear x0 x1 x2 y0 y1 y2;refine(Calls.vres (xT.o (g*m))).mono ?_;rintro e w1⟨M1,k1,n1,t1,bQ,rfl,Z⟩;obtain⟨q0,q1,q2,z0,z1,z2⟩:=(HLR.o.fr Z.2.1).six;have au:=lh Z;clear Z;obtain⟨R0,mH⟩:=zX (Vp (g*m) s)
  exact ZW
 have Cn:(o==3)=false\/(o==3)=true/\(p==3)=false:=by
  by_cases h1:o=3;·exact .inr ⟨by simp[h1],by simp;exact λh2=>bH ⟨h1,h2⟩⟩
  .exact .inl SF
 clear oM oU;simp only[Wc,if_neg J,if_neg bH]at hR;clear bH;by_cases O:u=28
 .subst O;clear ro nH;by_cases U:o=4/\p=4
  .obtain⟨rfl,rfl⟩:=U;simp at hR;clear Cn J;obtain⟨ib,ej⟩:∃ib:Int,ib=if(Zpn F I)=true then 1 else 0:=⟨_,rfl⟩
   have an:R=(s,.ok ⟨2,ib,⟨#[]⟩⟩):=Sl
   have h1:=FY.o (Zpn F I);exact YG
  .have hc:(o==4)=false\/(o==4)=true/\(p==4)=false:=by
    by_cases h1:o=4;·exact .inr ⟨by simp[h1],by simp;exact λh2=>U ⟨h1,h2⟩⟩
    .exact .inl SF
   rw[Y3 (λe=>U e.2),Y3 (λe=>absurd e.1 Qg)]at hR;simp only[va,uC]at hR;clear U J;rcases Cn with h3|⟨h3,tA⟩<;>rcases hc with hc|⟨hc,mM⟩
   all_goals
    go_enter func123,ntmps123
    go_wp2_with fail
    rw[<-HZ.o];clear x0 x1 x2 y0 y1 y2;refine Zx9 ?_;intro w9 ev q0 q1 q2 z0 z1 z2 ea HE;subst hR;go_wp2;refine Yp (v:=.tuple #[.agg #[vI 0,vI 0,.string ⟨#[]⟩],ev]) ?_ rfl ?_;·simp[results,results123,go_sem,q0,q1,q2]
    .exact .err HLR.o HBZ.o (HM.o.below ea.o) (MFr.trans (.refl _ _) (.of_below ea.o)) HE.o
 have J8:(u==28)=false:=by simp[O]
 rw[Y3 (λe=>O e.1)]at hR;by_cases jO:u=29
 .subst jO;by_cases U:o=4\/p=4
  .rw[Y5 ⟨rfl,U⟩]at hR;have hc:(o==4)=true\/(o==4)=false/\(p==4)=true:=by
    by_cases h1:o=4;·exact .inl SF
    .exact .inr ⟨by simp[h1],by simp;exact U.resolve_left h1⟩
   obtain⟨X,hX⟩:=zX (s.H.shown ⟨o,g,F⟩)
   obtain⟨Y,hY⟩:=zX (s.H.shown ⟨p,m,I⟩)
   rw[<-hX]at hR ro AK;rw[<-hY]at hR nH AK;have ba:(X++Y).size=X.size+Y.size:=ByteArray.size_append;have dL:=AK.o.1;have MU:=AK.o.2;have dt:(X.size:Int)+Y.size<=9223372036854775807:=Qe
   have su:X.size+Y.size<=9223372036854775807:=Qe
   obtain⟨XY,C1⟩:=zX (X++Y)
   rw[<-C1]at hR ba;have Pu:=lh C1;have MV:∀w,(Op.stringOp .add X Y).run Tryz.prog w=.ok (.string XY) w:=λw=>by rw[C1];exact run_string_add_sum w X Y su
   have HR:=lh hR;have Pv:=lh ba;clear U J O J8 hX hY ud C1 hR ba dL MU dt su AK;have FZ:decide (500<(XY.size:Int))=true/\500<XY.size\/decide (500<(XY.size:Int))=false/\¬500<XY.size:=by
    by_cases h9:500<XY.size;·exact .inl ⟨decide_eq_true Qe,h9⟩
    .exact .inr ⟨decide_eq_false Qe,h9⟩
   rcases Cn with h3|⟨h3,tA⟩<;>rcases hc with hc|⟨hc,mM⟩<;>rcases FZ with⟨vg,wh⟩|⟨vg,wh⟩
   all_goals
    have hR:=HR.o;simp only[wh,if_true,if_false,va,uC,ga]at hR;have sL:=lh wh;clear HR wh;go_enter func123,ntmps123
    go_wp2_with fail
    rw[<-HZ.o];clear x0 x1 x2 y0 y1 y2;refine o4 [(true,0),(true,1),(true,2),(true,3),(true,5),(true,6),(true,7),(true,8),(false,4)] [9,10,11] (λW=>vC W w.heap.size 0 (vI o)/\vC W w.heap.size 1 (vI g)/\vC W w.heap.size 2 (.string F)/\vC W (w.heap.size+1) 0 (vI p)/\vC W (w.heap.size+1) 1 (vI m)/\vC W (w.heap.size+1) 2 (.string I)) (HS.o _ _ (.drew (.refl _ _))) (λbw=>?_);refine iB ?_;intro K hK
    refine(ro.o _ (Zd _)).mono ?_;rintro e w1⟨rfl,aQ⟩;have wi:=(Zd z).trans (aQ.mono (Y0 _));refine hK _ _ (HS.o _ _ (.of_below wi)) ?_;clear hK K;have au:=lh wi;clear aQ wi;refine Z1 ?_;go_wp2_with fail
    refine(nH.o w1 au.o).mono ?_;rintro e w2⟨rfl,ar⟩;have aP:=zT au ar;clear ar;have F8:=lh (Ic.o Ul w2 aP.o);have sM:=lh (Zba w2 XY);simp only[LVal.agg]at sM;go_wp2_with fail
   iterate 4
    .refine F8.o.mono ?_;rintro e w9⟨ev,rfl,he,ny⟩;obtain⟨q0,q1,q2,z0,z1,z2⟩:=(HLR.o.fr (MFr.trans (.of_below aP.o) (.of_below ny))).six;have ea:=lh ny;have HE:=lh he;clear ny he;subst hR;go_wp2;refine Yp (v:=.tuple #[.agg #[vI 0,vI 0,.string ⟨#[]⟩],ev]) ?_ rfl ?_;·exact Uu
     .exact .err HLR.o HBZ.o ((HM.o.below aP.o).below ea.o) (MFr.trans (.of_below aP.o) (.of_below ea.o)) HE.o
    .refine sM.o.mono ?_;rintro e w9⟨rfl,ny⟩;obtain⟨q0,q1,q2,z0,z1,z2⟩:=(HLR.o.fr ((MFr.of_below aP.o).trans (.of_below ny))).six;have ea:=lh ny;clear ny;subst hR;go_wp2;refine Yp (v:=.tuple #[.agg #[vI 4,vI 0,.string XY],.nilIface]) ?_ rfl ?_;·exact Uu
     .exact .fine HLR.o HBZ.o ((HM.o.below aP.o).below ea.o) ((MFr.of_below aP.o).trans (.of_below ea.o))
  .have Pw:(o==4)=false:=by simp;exact λh1=>U (.inl h1)
   have Px:(p==4)=false:=by simp;exact λh1=>U (.inr h1)
   rw[Y3 (λe=>U e.2)]at hR;simp only[va,uC]at hR;clear U J O ro nH;exact Aad
 .have MS:(u==29)=false:=by simp[jO]
  rw[Y3 (λe=>jO e.1)]at hR;simp only[va,uC]at hR;clear J O jO ro nH;exact Aad
def Zf5(h:MAt C M w s)(hI:Inv s d)(ha:TreeAt w B a)(hf:a.free M)(hk:a.kind=23) :
 kC 132 #[vP C.mb,a.ptr,vI sc,.agg #[.bool fr.strict,vI fr.vars]] w λe w'=>bK C M w (S' V (a.nt C.N) sc fr s) e w':=by
 obtain⟨R,hR⟩:=zX (S' V (a.nt C.N) sc fr s)
 rw[<-hR];unfold S' at hR;rw[Za,Y5 hk,sw]at hR;refine MP ?_;intro aR lf lr z hz;rw[<-hz]at aR lf lr;refine Pq ?_;intro aE aJ;have J:=ha.lt;have c0:=(aR.cell J).trans ha.c0;have c1:=ha.c1;rw[hk]at c0;have O:∀W M',MFr M M' z W->vC W a.b 1 (.string a.text):=λW M' f=>
  have g:MFr M M' w W:=(MFr.of_below aR).trans f;(g.cell J hf.blk).trans c1
 obtain⟨ix,p⟩:=zX (s.H.find sc a.text)
 rw[<-p]at hR;have u:=Zdq aE.drew.heap hI.wf sc a.text;rw[<-p]at u;have U:=lh u;have hd:=λW (hB:kW z W)=>Abl (aE.below hB) ix a.text;obtain⟨X,Y⟩:=zX ((s.H.drop ix a.text).2)
 obtain⟨sd,Z⟩:=zX (s.setH (s.H.drop ix a.text).1)
 rw[<-Y,<-Z]at hR hd;obtain⟨DL,HS,HLR,HBZ,HM⟩:=gq hd O lr aR aE;rw[hz]at c0;have HZ:=lh hz;clear hz aE lf lr O c1 aR aJ ha hf h hI u hd Y Z p;unfold ATree.ptr;have cS:decide (ix<0)=true/\ix<0\/decide (ix<0)=false/\¬ix<0:=by
  exact Zxb
 rcases cS with⟨d0,y⟩|⟨d0,y⟩
 .rw[Y5 y]at hR;have F:R=(s,.ok ⟨2,1,⟨#[]⟩⟩):=hR;clear hR;subst F;go_enter func132,ntmps132
  go_wp2_with fail
  rw[<-HZ.o];clear c0;refine Zzm ?_;intro bw;go_wp2_with fail
  refine U.o.mono ?_;rintro e w1⟨rfl,m⟩;have au:=lh ((Zd z).trans (m.mono (Y0 _)));clear m;go_wp2_with fail
  refine Zwu ?_;intro bw;have I:=lh (V0 w1.drew true);go_wp2_with fail
  refine I.o.mono ?_;rintro e w2⟨rfl,ar⟩;have hB3:=au.o.drew.trans (ar.mono au.o.size);obtain⟨q0,q1,q2,z0,z1,z2⟩:=(HLR.o.bel hB3).six;have HB3:=lh hB3;clear ar hB3;go_wp2;refine Yp (v:=.tuple #[.agg #[vI 2,vI 1,.string ⟨#[]⟩],.nilIface]) ?_ rfl ?_;·exact Ly
  .exact .fine HLR.o HBZ.o (HM.o.below HB3.o) (.of_below HB3.o)
 .rw[Y3 y]at hR;obtain⟨o,ej⟩:∃o:Int,o=if X=true then 1 else 0:=⟨_,rfl⟩
  have F:R=(sd,.ok ⟨2,o,⟨#[]⟩⟩):=Sl
  have F':=lh ej;clear hR ej;subst F;go_enter func132,ntmps132
  go_wp2_with fail
  rw[<-HZ.o];clear c0;refine Zzm ?_;intro bw;go_wp2_with fail
  refine U.o.mono ?_;rintro e w1⟨rfl,m⟩;have au:=lh ((Zd z).trans (m.mono (Y0 _)));clear m;go_wp2_with fail
  refine Zwu ?_;intro bw;go_wp2_with fail
  refine(DL.o _ au.o.drew).mono ?_;rintro e w2⟨rfl,M2,aO,ap⟩;have hF:=(MFr.of_below (M:=M) au.o.drew).trans ap;have hi:=V0 w2 X;rw[<-F'.o]at hi;obtain⟨I,bU,bc⟩:=ds hi aO hF;clear aO ap hF hi;go_wp2_with fail
  refine I.o.mono ?_;rintro e w3⟨rfl,hB3⟩;refine Zoh ?_;intro q0 q1 q2 z0 z1 z2 HB3;clear hB3;go_wp2;refine Yp (v:=.tuple #[.agg #[vI 2,vI o,.string ⟨#[]⟩],.nilIface]) ?_ rfl ?_;·exact Ly
  .exact Zt7
def Zg5(co:zd C V b)(hV:VH V b)(h:MAt C M w s)(hI:Inv s (d+1))(hA:FAt s sc fr)(hb:b<=s.steps)(hs:s.steps<=20000)(ha:TreeAt w B a)(hf:a.free M){o:ATree}(hk:a.kind=36)(ho:a.kids=[o])(wo:(o.nt C.N).wf .v)(mo:(o.nt C.N).tree.many<=1500) :
 kC 132 #[vP C.mb,a.ptr,vI sc,.agg #[.bool fr.strict,vI fr.vars]] w λe w'=>bK C M w (S' V (a.nt C.N) sc fr s) e w':=by
 obtain⟨R,hR⟩:=zX (S' V (a.nt C.N) sc fr s)
 rw[<-hR];unfold S' at hR;refine Zlr ?_;intro e0;rw[Za,Y3 (by rw[hk];decide),Y5 hk,e0,sw]at hR;refine MP ?_;intro aR lf lr z hz;rw[<-hz]at aR lf lr;refine Pq ?_;intro aE aJ;obtain⟨I,kc,c3,cB,aT,bN,aY,eZ⟩:=ha.row hf QV;rw[ho]at c3 cB bN;refine Zms ?_;intro ir k0 c1;simp only[List.length_cons,List.length_nil]at c3 cB;have J:=ha.lt;have c0:=(aR.cell J).trans ha.c0;rw[hk]at c0
 have aq:∀W M',MFr M M' z W->vC W w.heap.size 0 (.bool fr.strict)/\vC W w.heap.size 1 (vI fr.vars)/\vC W a.b 1 (.string a.text)/\vC W a.b 3 (.slice (some ⟨I,0,none⟩) 1 kc)/\vC W I 0 (vP o.b):=λW M' f=>
  have g:MFr M M' w W:=(MFr.of_below aR).trans f;⟨(lf.fr f).cell rfl,(lf.fr f).cell rfl,(g.cell J hf.blk).trans c1,(g.cell J hf.blk).trans c3,(g.cell aY eZ).trans k0⟩
 refine V8 ?_;intro r1 bB bG am;unfold iC at hR;rw[<-bB]at bG am hR;refine Xk ?_;intro bL HR HS;have HLR:=lh lr;refine GR ?_;intro dC HBZ HM HO HE;rw[hz]at c0;have HZ:=lh hz;clear hz aE lf lr aq c1 c3 k0 bN aR aJ ha hf h hI hA bB am hR ho e0 hk ir;unfold ATree.ptr;go_enter func132,ntmps132
 go_wp2_with fail
 rw[<-HZ.o];clear c0
 refine v7 (.take 0 (.take 1 (.take 2 (.take 3 (.take 4 (.take 5 (.take 6 (.take 7 (.take 8 (.two 9 (.take 10 (.take 11 (.take 12 (.go 13 (.go 14 (.go 15 (.nil))))))) 13 (.go 9 (.take 10 (.take 11 (.take 12 (.go 14 (.go 15 (.nil))))))))))))))))) 14 (λW=>vC W w.heap.size 0 (.bool fr.strict)/\vC W w.heap.size 1 (vI fr.vars)/\vC W a.b 1 (.string a.text)/\vC W a.b 3 (.slice (some ⟨I,0,none⟩) 1 kc)/\vC W I 0 (vP o.b)) (HS.o _ _ (MFr.drew (.refl _ _))) ?_
 refine ra ?_;refine Zu ?_;apply Te (H:=sp C w M z r1);·exact Tm HS bG HE.o HO.o
 .exact OS HS bG HM HE.o HO.o
 intro W1 p1 M1 O n1 t1 bQ ai;have y:=ai.1.2.1;have bA:=lh y;obtain⟨s1,q1⟩:=r1;cases q1 with
 |error x1=>
   refine Xp ?_;intro he au hR;simp only at hR;subst hR;obtain⟨T1,P1,rfl,hP⟩:=he.ne;have eg:=lh he;obtain⟨q0,q1,q2,z0,z1,z2⟩:=(HLR.o.fr y).six;clear ai he HR y;go_wp2;refine Yp (v:=.tuple #[.agg #[vI 0,vI 0,.string ⟨#[]⟩],.iface T1 (.pointer P1)]) ?_ rfl ?_;·exact Ly
   .exact Zt4
 |ok v1=>
   obtain⟨rfl,rfl⟩:v1=⟨O,n1,t1⟩/\bQ=.nilIface:=ai.1.2.2;have hR:=HR.o;simp only at hR;obtain⟨c0,c1,c2,-,-,-⟩:=ai.2.six;have dZ:=ai.1.1;have U:=lh dZ
   have iF:=lh (show∀F M',MFr M1 M' W1 F->vC F p1 1 (vI n1)/\vC F a.b 1 (.string a.text)from
    λF M' f=>⟨(ai.2.fr f).cell rfl,(HS.o F M' (y.trans f)).2.2.1⟩)
   have fY:=lh hR;have au:=lh ai;clear ai y hR HR dZ;by_cases h5:O=5
   .subst h5;have hR:=fY.o;simp only[if_true]at hR;have hd:=AcM U.o.drew n1 a.text;obtain⟨db,AM⟩:=zX ((s1.H.cut n1 a.text).2)
    obtain⟨Y,qu⟩:=zX (s1.setH (s1.H.cut n1 a.text).1)
    rw[<-AM,<-qu]at hR hd;have DL:=lh hd;clear hd AM qu fY;cases db
    .simp only[Bool.false_eq_true,if_false]at hR;cases hst:fr.strict
     .rw[hst]at hR;have p:R=(Y,.ok ⟨2,0,⟨#[]⟩⟩):=hR;clear hR;subst p;go_wp2_with fail
      refine X8 ?_;intro bw;go_wp2_with fail
      refine Ztj ?_;intro W2 M2 aO ap hF;have Z:=(dC.o.fr hF).cell (i:=0) rfl;rw[hst]at Z;obtain⟨u,bU,bc⟩:=ds (V0 W2 false) aO hF;clear aO ap hF;go_wp2_with fail
      refine u.o.mono ?_;rintro e W3⟨rfl,hB3⟩;refine Zoh ?_;intro q0 q1 q2 z0 z1 z2 HB3;clear hB3;go_wp2;refine Yp (v:=.tuple #[.agg #[vI 2,vI 0,.string ⟨#[]⟩],.nilIface]) ?_ rfl ?_;·exact Ly
      .exact Zt7
     .rw[hst]at hR;have p:R=(Y,.error (.thr (.say xn))):=hR;clear hR;subst p;go_wp2_with fail
      refine X8 ?_;intro bw;go_wp2_with fail
      refine Ztj ?_;intro W2 M2 aO ap hF;have Z:=(dC.o.fr hF).cell (i:=0) rfl;rw[hst]at Z;obtain⟨u,bU,bc⟩:=ds (LW aO xn) aO hF;clear aO ap hF;go_wp2_with fail
      refine u.o.mono ?_;rintro e W3⟨ev,rfl,he,hB3⟩;refine Zoh ?_;intro q0 q1 q2 z0 z1 z2 HB3;exact tu4 bU bc
    .simp only[if_true]at hR;have p:R=(Y,.ok ⟨2,1,⟨#[]⟩⟩):=hR;clear hR;subst p;go_wp2_with fail
     refine X8 ?_;intro bw;go_wp2_with fail
     refine Ztj ?_;intro W2 M2 aO ap hF;obtain⟨u,bU,bc⟩:=ds (V0 W2 true) aO hF;clear aO ap hF;go_wp2_with fail
     refine u.o.mono ?_;rintro e W3⟨rfl,hB3⟩;refine Zoh ?_;intro q0 q1 q2 z0 z1 z2 HB3;clear hB3;go_wp2;refine Yp (v:=.tuple #[.agg #[vI 2,vI 1,.string ⟨#[]⟩],.nilIface]) ?_ rfl ?_;·exact Ly
     .exact Zt7
   .have b5:(O !=5)=true:=by simp[h5]
    have hR:=fY.o;simp only[h5,if_false]at hR;have p:R=(s1,.error (.thr (.say xn))):=hR;clear hR fY h5;subst p;have u:=lh (LW U.o xn);go_wp2_with fail
    refine u.o.mono ?_;rintro e W3⟨ev,rfl,he,hB3⟩;obtain⟨q0,q1,q2,z0,z1,z2⟩:=(HLR.o.fr (bA.o.trans (.of_below hB3))).six;have HB3:=lh hB3;exact tu4 U bA
def Zd6(co:zd C V b)(hV:VH V b)(h:MAt C M w s)(hI:Inv s (d+1))(hA:FAt s sc fr)(hb:b<=s.steps)(hs:s.steps<=20000)(ha:TreeAt w B a)(hf:a.free M)(J:a.kind≠23)(O:a.kind≠36)(wa:(a.nt C.N).wf .v)(ma:(a.nt C.N).tree.many<=1500) :
 kC 132 #[vP C.mb,a.ptr,vI sc,.agg #[.bool fr.strict,vI fr.vars]] w λe w'=>bK C M w (S' V (a.nt C.N) sc fr s) e w':=by
 obtain⟨R,g⟩:=zX (S' V (a.nt C.N) sc fr s)
 rw[<-g];unfold S' at g;rw[Za,Y3 J,Y3 O]at g;refine MP ?_;intro aR lf lr z hz;rw[<-hz]at aR lf lr;refine Pq ?_;intro aE aJ;have bT:=ha.lt;have c0:=(aR.cell bT).trans ha.c0;have Py:(a.kind==23)=false:=by simp[J]
 have Pz:(a.kind==36)=false:=by simp[O]
 obtain⟨r1,bB⟩:=zX (V (a.nt C.N) sc fr s)
 have bG:=lh (co.from aE hI hA hb hs wa ma aJ hf);unfold iC at g;rw[<-bB]at bG g;obtain⟨F,m,p,HM,HO,HE⟩:=gw g lr aR aE h.old.size aR.size;obtain⟨f0,f1⟩:=lf.two;rw[hz]at c0 f0 f1;have HZ:=lh hz;clear hz aE lf lr aR aJ ha hf h hI hA bB g J O;unfold ATree.ptr;go_enter func132,ntmps132
 go_wp2_with fail
 rw[<-HZ.o];clear c0 f0 f1;refine(bG.o z (Y2 _ _)).mono ?_;rintro e U⟨M1,X,Y,t1,I,rfl,ai⟩;have o:=lh ai;simp only[ag];have HI:=lh (V0 (U.alloc (.cells #[vI X,vI Y,.string t1] 71)) true);clear ai;go_wp2_with fail
 refine HI.o.mono ?_;rintro e W3⟨rfl,u⟩;have Z:=(Z2 U (.cells #[vI X,vI Y,.string t1] 71)).trans (u.mono (Z2 _ _).size);obtain⟨q0,q1,q2,z0,z1,z2⟩:=(m.o.fr (o.o.2.1.trans (.of_below Z))).six;have y:=lh Z;clear u Z;obtain⟨s1,q1⟩:=r1;cases q1 with
 |error x1=>
   have he:ax C M1 W3 x1 I:=ax.bel (show ax C M1 U x1 I from o.o.2.2) y.o;have an:R=(s1,.error x1):=F.o;have eg:=lh he;clear he F;subst an;go_wp2;refine Yp (v:=.tuple #[.agg #[vI 2,vI 1,.string ⟨#[]⟩],I]) ?_ rfl ?_;·exact Ly
   .exact .err m.o p.o (o.o.1.below y.o) (o.o.2.1.trans (.of_below y.o)) eg.o
 |ok v1=>
   obtain⟨rfl,rfl⟩:v1=⟨X,Y,t1⟩/\I=.nilIface:=o.o.2.2;have an:R=(s1,.ok ⟨2,1,⟨#[]⟩⟩):=F.o;clear F;subst an;go_wp2;refine Yp (v:=.tuple #[.agg #[vI 2,vI 1,.string ⟨#[]⟩],.nilIface]) ?_ rfl ?_;·exact Ly
   .exact .fine m.o p.o (o.o.1.below y.o) (o.o.2.1.trans (.of_below y.o))
def Zxk(co:zd C V b)(hV:VH V b)(h:MAt C M w s)(hI:Inv s (d+1))(hA:FAt s sc fr)(hb:b<=s.steps)(hs:s.steps<=20000)(ha:TreeAt w B a)(hf:a.free M){o:ATree}(hk:a.kind=32)(ho:a.kids=[o])(wo:(o.nt C.N).wf .v)(mo:(o.nt C.N).tree.many<=1500) :
 kC 124 #[vP C.mb,a.ptr,vI sc,.agg #[.bool fr.strict,vI fr.vars]] w λe w'=>bK C M w (EG V D (a.nt C.N) sc fr s) e w':=by
 refine Zk5 ?_;intro R hR;rw[<-hR];unfold EG at hR;refine Zlr ?_;intro e0;simp only[Za,hk,e0,sw]at hR;refine OQ ?_;intro aR lf lr ln z hz;rw[<-hz]at aR lf lr ln;refine Pq ?_;intro aE aJ;obtain⟨kg,kc,c3,cB,aT,bN,aY,eZ⟩:=ha.row hf QV;rw[ho]at c3 cB bN;refine Zms ?_;intro ir k0 c1;simp only[List.length_cons,List.length_nil]at c3 cB;refine Zob ?_;intro bT hob mv qZ q8 c0;rw[hk]at c0;refine Acp ?_;intro aq;refine V8 ?_;intro r1 bB bG am;simp only[show¬(32:Int)=33 from by decide,if_false,if_true,iC]at hR
 rw[<-bB]at bG am hR;refine Xk ?_;intro bL HR HS;have p:=lh lr;have bR:=lh ln;refine GR ?_;intro dC HBZ HM HO HE;have HZ:=lh hz;have d3:=(aR.cell bT).trans c3;rw[hz]at c0;clear hz aE lf lr ln aq c1 c3 k0 bN aR aJ ha hf h hI hA bB am hR ho e0 hk ir qZ q8 d3 mv;unfold ATree.ptr;go_enter func124,ntmps124
 go_wp2_with fail
 rw[<-HZ.o];clear c0;refine v7 (.take 0 (.take 1 (.take 2 (.take 3 (.take 4 (.take 5 (.take 6 (.take 7 (.take 8 (.two 9 (.take 10 (.take 11 (.take 12 (.go 13 (.go 14 (.go 15 (.nil))))))) 13 (.go 9 (.take 10 (.take 11 (.take 12 (.go 14 (.go 15 (.nil))))))))))))))))) 14 (λW=>vC W w.heap.size 0 (.bool fr.strict)/\vC W w.heap.size 1 (vI fr.vars)/\vC W a.b 3 (.slice (some ⟨kg,0,none⟩) 1 kc)/\vC W kg 0 (vP o.b)) (HS.o _ _ (MFr.drew (.refl _ _))) ?_;refine ra ?_;refine Zu ?_
 apply Te (H:=sp C w M z r1);·exact Tm HS bG HE.o HO.o
 .exact OS HS bG HM HE.o HO.o
 intro W1 p1 M1 k1 n1 t1 I J;have F1:=J.1.2.1;have U:=lh F1;obtain⟨g0,g1,g2,-,-,-⟩:=J.2.six;have O:=lh J;refine Zus ?_;intro ht bt cQ;rw[<-cQ]at ht;have HT:=lh ht;have mj:=lh cQ;clear J F1 ht cQ;go_wp2_with fail
 refine HT.o.mono ?_;rintro e W2⟨rfl,ar⟩;obtain⟨u,Y⟩:∃u:Int,u=if(!bt)=true then 1 else 0:=⟨_,rfl⟩
 have hi:=V0 W2 (!bt);rw[<-Y]at hi;obtain⟨HI,F',aP⟩:=ds hi Y ar;clear hi Y ar g0 g1 g2;go_wp2_with fail
 refine HI.o.mono ?_;rintro e W3⟨rfl,y⟩;have Z:=aP.o.trans (y.mono aP.o.size);obtain⟨q0,q1,q2,z0,z1,z2⟩:=(p.o.fr (U.o.trans (.of_below Z))).six;have F:=lh Z;clear y Z;obtain⟨s1,q1⟩:=r1;cases q1 with
 |error x1=>
   have he:ax C M1 W3 x1 I:=ax.bel (show ax C M1 W1 x1 I from O.o.1.2.2) F.o;have an:R=(s1,.error x1):=HR.o;have eg:=lh he;clear he HR;subst an;go_wp2;refine Yp (v:=.tuple #[.agg #[vI 2,vI u,.string ⟨#[]⟩],I]) ?_ rfl ?_;·exact Aq
   .exact .err p.o HBZ.o (O.o.1.1.below F.o) (U.o.trans (.of_below F.o)) eg.o
 |ok v1=>
   obtain⟨rfl,rfl⟩:v1=⟨k1,n1,t1⟩/\I=.nilIface:=O.o.1.2.2;have an:R=(s1,.ok ⟨2,u,⟨#[]⟩⟩):=by rw[F'.o,mj.o];exact HR.o
   clear HR;subst an;go_wp2;refine Yp (v:=.tuple #[.agg #[vI 2,vI u,.string ⟨#[]⟩],.nilIface]) ?_ rfl ?_;·exact Aq
   .exact .fine p.o HBZ.o (O.o.1.1.below F.o) (U.o.trans (.of_below F.o))
def Zkq{o:ATree}(h:MAt C M w s)(ha:TreeAt w B a)(hf:a.free M)(hk:a.kind=34)(ho:a.kids=[o])
 (y:∀W,kW w W->kC 132 #[vP C.mb,vP o.b,vI sc,.agg #[.bool fr.strict,vI fr.vars]] W λe w'=>bK C M W (S' V (o.nt C.N) sc fr s) e w') :
 kC 124 #[vP C.mb,a.ptr,vI sc,.agg #[.bool fr.strict,vI fr.vars]] w λe w'=>bK C M w (EG V D (a.nt C.N) sc fr s) e w':=by
 refine Zk5 ?_;intro R hR;rw[<-hR];unfold EG at hR;refine Zlr ?_;intro e0;simp only[Za,hk,e0,sw]at hR;refine OQ ?_;intro aR lf lr ln z hz;rw[<-hz]at aR lf lr ln;refine Pq ?_;intro aE aJ;obtain⟨kg,kc,c3,U,aT,bN,aY,eZ⟩:=ha.row hf QV;rw[ho]at c3 U bN;refine Zms ?_;intro ir k0 c1;simp only[List.length_cons,List.length_nil]at c3 U;refine Zob ?_;intro bT hob mv qZ q8 c0;rw[hk]at c0;refine Acp ?_;intro aq;obtain⟨r1,X⟩:=zX (S' V (o.nt C.N) sc fr s)
 simp only[show¬(34:Int)=33 from by decide,show¬(34:Int)=32 from by decide,if_false,if_true]at hR;rw[<-X]at hR y;obtain⟨bG,Y,m,bR⟩:=gp (λW (hB:kW z W)=>Calls.vres (y W (aR.trans (hB.mono aR.size)))) aq lr ln;refine GR ?_;intro dC HBZ HM HO HE;have HZ:=lh hz;rw[hz]at c0;clear hz aE lf lr ln aq c1 c3 k0 bN aR aJ ha hf h X ho e0 hk ir qZ q8 mv y;unfold ATree.ptr;go_enter func124,ntmps124
 go_wp2_with fail
 rw[<-HZ.o];clear c0;refine o4 [(true,0),(true,1),(true,2),(true,3),(true,4),(true,5),(true,6),(true,7),(true,8),(false,9),(true,10),(true,11)] [12,13] (λW=>vC W w.heap.size 0 (.bool fr.strict)/\vC W w.heap.size 1 (vI fr.vars)/\vC W a.b 3 (.slice (some ⟨kg,0,none⟩) 1 kc)/\vC W kg 0 (vP o.b)) (Y.o _ _ (.drew (.refl _ _))) (λbw=>?_);refine iB ?_;intro K hK;refine(bG.o _ (Zd _)).mono ?_;rintro e W1⟨M1,F,I,t1,J,rfl,O⟩
 have p:=(MFr.drew (.refl M z)).trans O.2.1;refine hK _ _ (Y.o _ _ p) ?_;clear hK K;obtain⟨q0,q1,q2,z0,z1,z2⟩:=(m.o.fr p).six;have u:=lh O;have Z:=lh p;clear O p;refine zD ?_;subst hR;obtain⟨s1,q1⟩:=R;cases q1 with
 |error x1=>
   have eg:=lh (show ax C M1 W1 x1 J from u.o.2.2);go_wp2;refine Yp (v:=.tuple #[.agg #[vI F,vI I,.string t1],J]) ?_ rfl ?_;·exact Aq
   .exact .err m.o HBZ.o u.o.1 Z.o eg.o
 |ok v1=>
   obtain⟨rfl,rfl⟩:v1=⟨F,I,t1⟩/\J=.nilIface:=u.o.2.2;go_wp2;refine Yp (v:=.tuple #[.agg #[vI F,vI I,.string t1],.nilIface]) ?_ rfl ?_;·exact Aq
   .exact .fine m.o HBZ.o u.o.1 Z.o
def Zrs(h:MAt C M w s)(ha:TreeAt w B a)(hf:a.free M)(hk:a.kind=35)
 (m:∀W,kW w W->kC 133 #[vP C.mb,vP a.b,vI sc,.agg #[.bool fr.strict,vI fr.vars]] W λe w'=>bK C M W (WV V D (a.nt C.N) sc fr s) e w') :
 kC 124 #[vP C.mb,a.ptr,vI sc,.agg #[.bool fr.strict,vI fr.vars]] w λe w'=>bK C M w (EG V D (a.nt C.N) sc fr s) e w':=by
 refine Zk5 ?_;intro R hR;rw[<-hR];unfold EG at hR;simp only[Za,hk]at hR;refine OQ ?_;intro aR lf lr ln z hz;rw[<-hz]at aR lf lr ln;refine Pq ?_;intro aE aJ;have y:=ha.lt;have c0:=(aR.cell y).trans ha.c0;rw[hk]at c0;obtain⟨U,o⟩:=zX (WV V D (a.nt C.N) sc fr s)
 simp only[show¬(35:Int)=33 from by decide,show¬(35:Int)=32 from by decide,show¬(35:Int)=34 from by decide,if_false,if_true]at hR;rw[<-o]at hR m;obtain⟨bG,HLR,g⟩:=ds (Calls.vres (m z aR)) lr aR;obtain⟨p,u⟩:=lf.two;have F:=lh hz;rw[hz]at c0 p u;clear hz aE lf lr ln aR aJ ha hf h o hk m;unfold ATree.ptr;go_enter func124,ntmps124
 go_wp2_with fail
 rw[<-F.o];clear c0 p u;refine Zv4 ?_;intro W1 M1 k1 n1 t1 bQ q0 q1 q2 z0 z1 z2 au;subst hR;obtain⟨s1,q1⟩:=R;cases q1 with
 |error I=>
   have J:=lh (show ax C M1 W1 I bQ from au.o.2.2);go_wp2;refine Yp (v:=.tuple #[.agg #[vI k1,vI n1,.string t1],bQ]) ?_ rfl ?_;·exact Aq
   .exact .err HLR.o g.o au.o.1 au.o.2.1 J.o
 |ok O=>
   obtain⟨rfl,rfl⟩:O=⟨k1,n1,t1⟩/\bQ=.nilIface:=au.o.2.2;go_wp2;refine Yp (v:=.tuple #[.agg #[vI k1,vI n1,.string t1],.nilIface]) ?_ rfl ?_;·exact Aq
   .exact .fine HLR.o g.o au.o.1 au.o.2.1
def Zm0(co:zd C V b)(hV:VH V b)(h:MAt C M w s)(hI:Inv s (d+1))(hA:FAt s sc fr)(hb:b<=s.steps)(hs:s.steps<=20000)(ha:TreeAt w B a)(hf:a.free M){o:ATree}(hk:a.kind=36)(ho:a.kids=[o])(wo:(o.nt C.N).wf .v)(mo:(o.nt C.N).tree.many<=1500) :
 kC 124 #[vP C.mb,a.ptr,vI sc,.agg #[.bool fr.strict,vI fr.vars]] w λe w'=>bK C M w (EG V D (a.nt C.N) sc fr s) e w':=by
 refine Zk5 ?_;intro R hR;rw[<-hR];unfold EG at hR;refine Zlr ?_;intro e0;simp only[Za,hk,e0,sw]at hR;refine OQ ?_;intro aR lf lr ln z hz;rw[<-hz]at aR lf lr ln;refine Pq ?_;intro aE aJ;obtain⟨O,kc,c3,cB,aT,bN,aY,eZ⟩:=ha.row hf QV;rw[ho]at c3 cB bN;refine Zms ?_;intro ir k0 c1;simp only[List.length_cons,List.length_nil]at c3 cB;refine Zob ?_;intro bT hob mv qZ q8 c0;rw[hk]at c0
 have aq:∀W M',MFr M M' z W->vC W w.heap.size 0 (.bool fr.strict)/\vC W w.heap.size 1 (vI fr.vars)/\vC W a.b 3 (.slice (some ⟨O,0,none⟩) 1 kc)/\vC W O 0 (vP o.b)/\vC W a.b 1 (.string a.text):=λW M' f=>
  have g:MFr M M' w W:=(MFr.of_below aR).trans f;⟨(lf.fr f).cell rfl,(lf.fr f).cell rfl,(g.cell bT hf.blk).trans c3,(g.cell aY eZ).trans k0,(g.cell bT hf.blk).trans c1⟩
 refine V8 ?_;intro r1 bB bG am;simp only[show¬(36:Int)=33 from by decide,show¬(36:Int)=32 from by decide,show¬(36:Int)=34 from by decide,show¬(36:Int)=35 from by decide,if_false,if_true,iC]at hR;rw[<-bB]at bG am hR;refine Xk ?_;intro bL HR HS;have HLR:=lh lr;have U:=lh ln;refine GR ?_;intro dC HBZ HM HO HE;have HZ:=lh hz;rw[hz]at c0;clear hz aE lf lr ln aq c1 c3 k0 bN aR aJ ha hf h hI hA bB am hR ho e0 hk ir qZ q8 mv;unfold ATree.ptr;go_enter func124,ntmps124
 go_wp2_with fail
 rw[<-HZ.o];clear c0
 refine v7 (.take 0 (.take 1 (.take 2 (.take 3 (.take 4 (.take 5 (.take 6 (.take 7 (.take 8 (.two 9 (.take 10 (.take 11 (.take 12 (.go 13 (.go 14 (.go 15 (.nil))))))) 13 (.go 9 (.take 10 (.take 11 (.take 12 (.go 14 (.go 15 (.nil))))))))))))))))) 14 (λW=>vC W w.heap.size 0 (.bool fr.strict)/\vC W w.heap.size 1 (vI fr.vars)/\vC W a.b 3 (.slice (some ⟨O,0,none⟩) 1 kc)/\vC W O 0 (vP o.b)/\vC W a.b 1 (.string a.text)) (HS.o _ _ (MFr.drew (.refl _ _))) ?_
 refine ra ?_;refine Zu ?_;apply Te (H:=sp C w M z r1);·exact Tm HS bG HE.o HO.o
 .exact OS HS bG HM HE.o HO.o
 intro W1 p1 M1 k1 F t1 bQ ai;have I:=ai.1.2.1;have bA:=lh I;obtain⟨s1,q1⟩:=r1;cases q1 with
 |error x1=>
   refine Xp ?_;intro he au hR;simp only at hR;subst hR;obtain⟨T1,P1,rfl,hP⟩:=he.ne;have eg:=lh he;obtain⟨q0,q1,q2,z0,z1,z2⟩:=(HLR.o.fr I).six;obtain⟨m0,m1,m2,-,-,-⟩:=(U.o.fr I).six;clear ai he HR I;go_wp2;refine Yp (v:=.tuple #[.agg #[vI 0,vI 0,.string ⟨#[]⟩],.iface T1 (.pointer P1)]) ?_ rfl ?_;·exact Aq
   .exact Zt4
 |ok v1=>
   obtain⟨rfl,rfl⟩:v1=⟨k1,F,t1⟩/\bQ=.nilIface:=ai.1.2.2;have hR:=HR.o;simp only at hR;obtain⟨c0,c1,c2,-,-,-⟩:=ai.2.six;have Y:=lh ai.1.1;have au:=lh ai;clear ai I HR;by_cases h5:k1=5
   .subst h5;simp only[if_true,ga]at hR
    have J:=lh (show∀p M',MFr M1 M' W1 p->vC p p1 1 (vI F)/\vC p a.b 1 (.string a.text)from
     λp M' f=>⟨(au.o.2.fr f).cell rfl,(HS.o p M' (bA.o.trans f)).2.2.2.2⟩)
    have y:=AcR Y.o.drew F a.text;obtain⟨G,hG⟩:=zX (s1.H.get F a.text)
    rw[<-hG]at y hR;obtain⟨⟨gk,gn,gt⟩,J9⟩:∃v,v=G.getD LVal.zero:=⟨_,rfl⟩
    rw[<-J9]at y hR;simp only[LVal.agg]at y;obtain⟨gb,gJ⟩:=zX G.isSome
    rw[<-gJ]at y;have HG:=lh y;clear y hG J9 gJ;subst hR;go_wp2_with fail
    refine v7 (.take 0 (.take 1 (.take 2 (.take 3 (.take 4 (.take 5 (.take 6 (.take 7 (.take 8 (.go 9 (.take 10 (.take 11 (.take 12 (.go 13 .nil)))))))))))))) 13 (λW=>vC W p1 1 (vI F)/\vC W a.b 1 (.string a.text)) (J.o _ _ (.drew (.refl _ _))) ?_;refine ra ?_;refine oK (λK hK=>?_);refine HG.o.mono ?_;rintro e W2⟨rfl,ar⟩;have Z:=(Zd W1).trans (ar.mono (Y0 _));refine hK _ _ (J.o _ _ (.of_below Z)) ?_;clear hK K c0 c1 c2;obtain⟨c0,c1,c2,d0,d1,d2⟩:=(au.o.2.bel Z).six;have aP:=lh Z
    clear ar Z;refine UQ ?_;obtain⟨y1,y2,y3,y4⟩:=(au.o.2.bel aP.o).fill (x':=(vI gk)) (y':=(vI gn)) (z':=.string gt) (Y.o.below aP.o) (MFr.trans bA.o (.of_below aP.o)) au.o.2.late;have u:=lh (Yu y1 (Yu y2 y3));clear y1 y2 y3 y4;refine VY ?_;have aH:w.heap.size+1≠p1:=by have:=au.o.2.late;have h2:=HE.o;rw[HZ.o]at this;simp at this;omega
    obtain⟨q0,q1,q2,z0,z1,z2⟩:=(HLR.o.fr (bA.o.trans (.of_below aP.o))).six;have r0:=(HLR.o.fr u.o.2.1).cell (i:=0) rfl;have r1:=(HLR.o.fr u.o.2.1).cell (i:=1) rfl;have r2:=(HLR.o.fr u.o.2.1).cell (i:=2) rfl;have u0:=u.o.2.2.cell (i:=0) rfl;have u1:=u.o.2.2.cell (i:=1) rfl;have u2:=u.o.2.2.cell (i:=2) rfl;have v0:=(HLR.o.fr u.o.2.1).fz 0;have v1:=(HLR.o.fr u.o.2.1).fz 1;have v2:=(HLR.o.fr u.o.2.1).fz 2;go_wp2
    refine Yp (v:=.tuple #[.agg #[vI gk,vI gn,.string gt],.nilIface]) ?_ rfl ?_;·simp[results,results124,go_sem,r0,r1,r2]
    .exact .fine HLR.o HBZ.o u.o.1 u.o.2.1
   .have b5:(k1 !=5)=true:=by simp[h5]
    simp only[h5,if_false,va,uC]at hR;subst hR;clear h5;have HP:=lh (LW Y.o.drew xn)
    have J:=lh (show∀p M',MFr M1 M' W1 p->vC p (w.heap.size+1+1) 0 (vI 0)/\vC p (w.heap.size+1+1) 1 (vI 0)/\vC p (w.heap.size+1+1) 2 (.string ⟨#[]⟩)from
     λp M' f=>⟨(U.o.fr (bA.o.trans f)).cell rfl,(U.o.fr (bA.o.trans f)).cell rfl,(U.o.fr (bA.o.trans f)).cell rfl⟩)
    go_wp2_with fail
    refine o4 [(true,0),(false,1)] [2,3] (λW=>vC W (w.heap.size+1+1) 0 (vI 0)/\vC W (w.heap.size+1+1) 1 (vI 0)/\vC W (w.heap.size+1+1) 2 (.string ⟨#[]⟩)) (J.o _ _ (.drew (.refl _ _))) (λbw=>?_);refine iB ?_;intro K hK;refine Zue ?_;intro W3 fj j9 hB3 hF3';refine hK _ _ (J.o _ _ hF3') ?_;clear hK K c0 c1 c2;obtain⟨q0,q1,q2,z0,z1,z2⟩:=(HLR.o.fr (bA.o.trans hF3')).six;obtain⟨dH,bP,iS⟩:=ds (Y.o.drew.below hB3) (bA.o.trans hF3') j9;clear hF3' j9 hB3
    refine Z1 ?_;go_wp2;refine Yp (v:=.tuple #[.agg #[vI 0,vI 0,.string ⟨#[]⟩],fj]) ?_ rfl ?_;·exact Aq
    .exact Zsl
def Zlq(co:zd C V b)(hV:VH V b)(h:MAt C M w s)(hI:Inv s (d+1))(hA:FAt s sc fr)(hb:b<=s.steps)(hs:s.steps<=20000)(ha:TreeAt w B a)(hf:a.free M){o:ATree}(hk:a.kind=33)(ho:a.kids=[o])(wo:(o.nt C.N).wf .v)(mo:(o.nt C.N).tree.many<=1500) :
 kC 124 #[vP C.mb,a.ptr,vI sc,.agg #[.bool fr.strict,vI fr.vars]] w λe w'=>bK C M w (EG V D (a.nt C.N) sc fr s) e w':=by
 refine Zk5 ?_;intro R hR;rw[<-hR];unfold EG at hR;refine Zlr ?_;intro e0;simp only[Za,hk,e0,sw]at hR;refine OQ ?_;intro aR lf lr ln z hz;rw[<-hz]at aR lf lr ln;refine Pq ?_;intro aE aJ;obtain⟨kg,kc,c3,U,aT,bN,Y,eZ⟩:=ha.row hf QV;rw[ho]at c3 U bN;refine Zms ?_;intro ir k0 c1;simp only[List.length_cons,List.length_nil]at c3 U;refine Zob ?_;intro bT hob mv qZ q8 c0;rw[hk]at c0
 have aq:∀W M',MFr M M' z W->vC W w.heap.size 0 (.bool fr.strict)/\vC W w.heap.size 1 (vI fr.vars)/\vC W a.b 3 (.slice (some ⟨kg,0,none⟩) 1 kc)/\vC W kg 0 (vP o.b)/\vC W o.b 0 (vI o.kind)/\vC W o.b 1 (.string o.text):=λW M' f=>
  have g:MFr M M' w W:=(MFr.of_below aR).trans f;⟨(lf.fr f).cell rfl,(lf.fr f).cell rfl,(g.cell bT hf.blk).trans c3,(g.cell Y eZ).trans k0,(g.cell hob mv.blk).trans qZ,(g.cell hob mv.blk).trans q8⟩
 refine V8 ?_;intro r1 bB bG am;simp only[if_true,iC]at hR;rw[<-bB]at bG am hR;obtain⟨y,Z⟩:=zX (s.H.find sc o.text)
 have F:=Zdq aE.drew.heap hI.wf sc o.text;rw[<-Z]at F hR;have oF:=lh F;refine Xk ?_;intro bL HR HS;have HLR:=lh lr;have bR:=lh ln;refine GR ?_;intro dC HBZ HM HO HE;have HZ:=lh hz;have I:=(aR.cell bT).trans c3;have J:=(aR.cell Y).trans k0;rw[hz]at c0 I J;clear hz aE lf lr ln aq c1 c3 k0 bN aR aJ ha hf h hI hA bB am hR ho e0 hk ir qZ q8 mv F Z;unfold ATree.ptr;by_cases p:o.kind=23/\y<0
 .have J':(o.kind==23)=true:=by simp[p.1]
  have MW:decide (y<0)=true:=decide_eq_true p.2;have an:R=(s,.ok ⟨4,0,WP⟩):=by rw[HR.o,Y5 p];rfl
  clear HR p;subst an;go_enter func124,ntmps124
  go_wp2_with fail
  rw[<-HZ.o];clear c0 I J;refine AaM ?_;intro bw;go_wp2_with fail
  refine oF.o.mono ?_;rintro e W1⟨rfl,aQ⟩;have au:=lh ((Zd z).trans (aQ.mono (Y0 _)));have jc:=Zba W1 WP;simp only[LVal.agg]at jc;have DP:=lh jc;clear aQ jc;go_wp2_with fail
  refine DP.o.mono ?_;rintro e W2⟨rfl,ar⟩;have hB3:=au.o.trans (ar.mono au.o.size);obtain⟨q0,q1,q2,z0,z1,z2⟩:=(HLR.o.bel hB3).six;have u:=lh hB3;clear ar hB3;go_wp2;refine Yp (v:=.tuple #[.agg #[vI 4,vI 0,.string WP],.nilIface]) ?_ rfl ?_;·exact Aq
  .exact .fine HLR.o HBZ.o (HM.o.below u.o) (.of_below u.o)
 .have an:=HR.o;rw[Y3 p]at an;have cS:(o.kind==23)=false\/(o.kind==23)=true/\decide (y<0)=false:=by
   by_cases h1:o.kind=23;·exact .inr ⟨by simp[h1],decide_eq_false λh2=>p ⟨h1,h2⟩⟩
   .exact .inl SF
  have HR:=lh an;clear an p;have O:∀(Wx:kV),kW z Wx->True:=λ_ _=>trivial;clear O;rcases cS with J'|⟨J',MW⟩
  all_goals
   go_enter func124,ntmps124
   go_wp2_with fail
   rw[<-HZ.o];clear c0 I J;refine AaM ?_;intro bw;go_wp2_with fail
  .obtain⟨W0,Ka,kS⟩:∃W0,W0=z.drew/\Hid (kW z W0):=⟨_,rfl,lh (Zd z)⟩
   rw[<-Ka];clear Ka;exact Aau
  .refine oF.o.mono ?_;rintro e W0⟨rfl,cu⟩;have kS:=lh ((Zd z).trans (cu.mono (Y0 _)));clear cu;go_wp2_with fail
   exact Aau
def Zjt{V:VF}{o:Int}{k:NT}{l:List NT}:Vh V sc fr o (k::l) s=match V (k.kid 0) sc fr s with
 |(s1,.ok v)=>Vh V sc fr o l (s1.put o k.text v false)
 |(s1,.error e)=>(s1,.error e):=by
 simp only[Vh,iC];rcases V (k.kid 0) sc fr s with⟨s1,e|v⟩<;>rfl
def Zlv(co:zd C V b)(hV:VH V b)(h:MAt C M w s)(hI:Inv s (d+a.kids.length+1))(hA:FAt s sc fr)(hb:b<=s.steps)(hs:s.steps<=20000)(ha:TreeAt w B a)(hf:a.free M)(hk:a.kind=38)(hn:a.kids.length<=1500)(bC:∀x∈a.kids,∃o,x.kids=[o]/\(o.nt C.N).wf .v/\(o.nt C.N).tree.many<=1500) :
 kC 124 #[vP C.mb,a.ptr,vI sc,.agg #[.bool fr.strict,vI fr.vars]] w λe w'=>bK C M w (EG V D (a.nt C.N) sc fr s) e w':=by
 refine Zk5 ?_;intro R hR;rw[<-hR];unfold EG at hR;simp only[Za,hk,Zw]at hR;simp only[show¬(38:Int)=33 from by decide,show¬(38:Int)=32 from by decide,show¬(38:Int)=34 from by decide,show¬(38:Int)=35 from by decide,show¬(38:Int)=36 from by decide,if_false,if_true]at hR;obtain⟨ob,hob⟩:=zX s.nextO
 rw[<-hob]at hR;refine OQ ?_;intro aR lf lr ln z hz;rw[<-hz]at aR lf lr ln;refine Pq ?_;intro aE aJ;have bT:=ha.lt;have c0:=(aR.cell bT).trans ha.c0;rw[hk]at c0;obtain⟨q,hq⟩:=zX a.kids.length
 obtain⟨P,I⟩:=zX a.kids
 rw[<-I]at bC;obtain⟨eH,y⟩:=hI.object (d:=d+a.kids.length) (code:=0) Qg Qe;have jM:=Zaf aE hI 0;rw[<-hob]at jM;obtain⟨s0,gL⟩:=zX (s.object 0)
 rw[<-gL]at jM hR eH y;rw[<-hq]at eH hn;have AN:s0.steps=s.steps:=by rw[gL];rfl
 have qv:=aJ.rowOf;obtain⟨pp,cp,ch,bq,d7,cW⟩:=lL.slice qv;rw[<-hq]at ch bq;rw[<-I]at cW;have c3:=ha.c3;rw[ch]at c3;have d3:=(aR.cell bT).trans c3;have an:R=match Vh V sc fr ob (P.map (ATree.nt C.N)) s0 with
  |(s1,.ok _)=>(s1,.ok (.ref ob))
  |(s1,.error e)=>(s1,.error e):=by
  rw[hR,I];simp only[iC,ga,zI];rcases Vh V sc fr ob (a.kids.map (ATree.nt C.N)) s0 with⟨s1,e|v⟩<;>rfl
 obtain⟨kZ,MX,il,Gb,mW,F,bR⟩:=kF jM y eH AN an lr ln;refine GR ?_;intro dC HBZ HM HO HE;obtain⟨fB,dW,HA,pN,qw,ue,HP,HQ,oV,HV,du⟩:=rt aJ hf hA bC ch cW I (show q=P.length by rw[hq,I]) co hV (Yu hb hs);rw[hz]at c0;have HZ:=lh hz;have nq:q<=9223372036854775807:=Qe
 clear hz aE lf lr ln aR aJ ha hf h hI hA hR an hk hob jM gL eH y AN qv ch cW I hq bC co hV hb hs c3;unfold ATree.ptr;go_enter func124,ntmps124
 go_wp2_with fail
 rw[<-HZ.o];clear c0;refine kZ.o.mono ?_;rintro e w1⟨rfl,M1,dZ,dc⟩;have e3:=(dc.tree fB.o dW.o).1.c3;rw[qw.o]at e3;have bX:=lh dZ;have bA:=lh dc;clear dZ dc d3;go_wp2_with fail
 go_loopw [166] (λi wr=>∃(k:Nat) (Mk:MRep) (u:MSt),k<=q/\i=(vI k)/\Hid (MAt C Mk wr u)/\Hid (MFr M Mk z wr)/\Hid (Inv u (d+(q-k)))/\Hid (Ext s u/\u.steps<=20000)/\Hid (R=match Vh V sc fr ob ((P.drop k).map (ATree.nt C.N)) u with
  |(s1,.ok _)=>(s1,.ok (.ref ob))
  |(s1,.error e)=>(s1,.error e))) (λi _=>q-(intOf i).toNat)
 case atStart=>exact⟨0,M1,s0,Yh _,rfl,bX,bA,lh (by rw[Nat.sub_zero];exact il.o),lh ⟨MX.o,by rw[Gb.o];exact du.o.2⟩,lh (by rw[List.drop_zero];exact mW.o)⟩
 case round=>
  obtain⟨k,Mk,u,hk,rfl,J,g,eu,dJ,O⟩:=hrel;by_cases bY:k<q
  .obtain⟨x,hx⟩:∃x,P[k]? =some x:=⟨_,Y6 Ra⟩
   obtain⟨g0,hp⟩:=ue.o k x hx;subst hp;have aV:x∈P:=Yd hx;have bM:x∈a.kids:=by rw[<-HP.o];exact aV
   obtain⟨o,y,wo,mo⟩:=pN.o x aV;have dy:=g.o.tree fB.o dW.o;have ae:=dy.1.rowOf;rw[qw.o]at ae;have cx:wr.cell? ⟨g0,k,none⟩=some (vP x.b):=lL.cell ae (b:=g0) rfl (by rw[<-HP.o];exact hx);have ml:=dy.1.kid bM;have fS:=dy.2.kid bM;obtain⟨xg,xc,U,dL,sm,cC,ju,vY⟩:=ml.row fS (by rw[y];simp);rw[y]at U dL cC;have ir:o∈x.kids:=by rw[y];simp
   have x0:=cC 0 o rfl;have sI:=ml.c1;simp only[List.length_cons,List.length_nil]at U dL;have g9:=ml.lt;obtain⟨r1,bB⟩:=zX (V (o.nt C.N) sc fr u)
   have fV:=dJ.o;have gA:b<=u.steps:=Int.le_trans du.o.1 fV.1.steps;have bG:=lh (oV.o.from J.o eu.o (HA.o.ext fV.1) gA fV.2 wo mo (ml.kid ir) (fS.kid ir));have am:=(HV.o (o.nt C.N) sc fr u _ wo mo eu.o (HA.o.ext fV.1) gA fV.2).1;have hR:=O.o;rw[show P.drop k=x::P.drop (k+1) by
    obtain⟨hl,he⟩:=List.getElem?_eq_some_iff.1 hx;rw[Yt hl,he],List.map_cons,Zjt,xX (show x.kids[0]?=some o by rw[y];rfl),sw]at hR
   rw[<-bB]at bG am hR;have HS:=lh (show∀W M',MFr Mk M' wr W->vC W w.heap.size 0 (.bool fr.strict)/\vC W w.heap.size 1 (vI fr.vars)/\vC W x.b 3 (.slice (some ⟨xg,0,none⟩) 1 xc)/\vC W xg 0 (vP o.b)/\vC W x.b 1 (.string x.text)from λW M' f=>
    ⟨(dC.o.fr (g.o.trans f)).cell rfl,(dC.o.fr (g.o.trans f)).cell rfl,(f.cell g9 fS.blk).trans U,(f.cell ju vY).trans x0,(f.cell g9 fS.blk).trans sI⟩)
   obtain⟨HR,bL,qx⟩:=ds hR am (Y4 HE.o g.o.size);clear hR am bB dy ae ml fS cC U x0 sI aV bM y ir fV gA wo mo;go_wp2_with fail
   refine v7 (.take 0 (.take 1 (.take 2 (.take 3 (.take 4 (.take 5 (.take 6 (.take 7 (.take 8 (.two 9 (.take 10 (.take 11 (.take 12 (.go 13 (.go 14 (.go 15 (.nil))))))) 13 (.go 9 (.take 10 (.take 11 (.take 12 (.go 14 (.go 15 (.nil))))))))))))))))) 14 (λW=>vC W w.heap.size 0 (.bool fr.strict)/\vC W w.heap.size 1 (vI fr.vars)/\vC W x.b 3 (.slice (some ⟨xg,0,none⟩) 1 xc)/\vC W xg 0 (vP o.b)/\vC W x.b 1 (.string x.text)) (HS.o _ _ (MFr.drew (.refl _ _))) ?_
   refine ra ?_;refine Zu ?_;apply Te (H:=sp C w Mk wr r1);·exact Tm HS bG qx.o HO.o
   .exact Xs HS bG J qx.o HO.o
   intro W1 p1 M2 Y Z t1 bQ p;have F1:=g.o.trans p.1.2.1;have bc:=lh F1;obtain⟨s1,q1⟩:=r1;cases q1 with
   |error x1=>
     have he:ax C M2 W1 x1 bQ:=p.1.2.2;have au:=lh p;have an:R=(s1,.error x1):=HR.o;subst an;obtain⟨T1,P1,rfl,I⟩:=he.ne;have eg:=lh he;obtain⟨q0,q1,q2,z0,z1,z2⟩:=(F.o.fr F1).six;obtain⟨m0,m1,m2,-,-,-⟩:=(bR.o.fr F1).six;clear p he HR F1;go_wp2;refine Yp (v:=.tuple #[.agg #[vI 0,vI 0,.string ⟨#[]⟩],.iface T1 (.pointer P1)]) ?_ rfl ?_;·exact Aq
     .exact .err F.o HBZ.o au.o.1.1 bc.o eg.o
   |ok v1=>
     obtain⟨rfl,rfl⟩:v1=⟨Y,Z,t1⟩/\bQ=.nilIface:=p.1.2.2;obtain⟨i1,x1,-,eo,i2⟩:=bL.o;have hR:=HR.o;simp only at hR;have fM:Inv s1 (d+(q-(k+1))+1):=i1.less Qe;have hpt:=zG p.1.1.drew fM ob x.text ⟨Y,Z,t1⟩ false;simp only[LVal.agg]at hpt;have ku:=lh hpt;obtain⟨i3,U⟩:=CC (d:=d+(q-(k+1))) (o:=ob) (name:=x.text) (v:=⟨Y,Z,t1⟩) (fx:=false) fM eo;have nX:=lh i3
     have Gc:=lh (show Ext s (s1.put ob x.text ⟨Y,Z,t1⟩ false)/\(s1.put ob x.text ⟨Y,Z,t1⟩ false).steps<=20000 from⟨(dJ.o.1.trans x1).trans U,i2⟩)
     have cH:=lh (show∀W M',MFr M2 M' W1 W->vC W p1 0 (vI Y)/\vC W p1 1 (vI Z)/\vC W p1 2 (.string t1)/\vC W x.b 1 (.string x.text)from
      λW M' f=>⟨(p.2.fr f).cell rfl,(p.2.fr f).cell rfl,(p.2.fr f).cell rfl,(HS.o W M' (p.1.2.1.trans f)).2.2.2.2⟩)
     have dP:=lh hR;clear p F1 hR HR i1 x1 eo i2 hpt fM i3 U;go_wp2_with fail
     refine o4 [(true,0),(true,1),(true,2),(true,3),(true,4),(true,5),(true,6),(true,7),(true,8)] [9] (λW=>vC W p1 0 (vI Y)/\vC W p1 1 (vI Z)/\vC W p1 2 (.string t1)/\vC W x.b 1 (.string x.text)) (cH.o _ _ (.drew (.refl _ _))) (λbw=>?_);refine pU ?_;refine Z1 ?_;go_wp2_with fail
     refine ku.o.mono ?_;rintro e w3⟨rfl,M3,dE,bh⟩;have dH:=lh dE;have bP:=lh (bc.o.trans ((MFr.drew (.refl M2 W1)).trans bh));clear dE bh;go_wp2_with fail
     go_roundw
     case rel=>exact⟨k+1,M3,_,by omega,by go_num,dH,bP,nX,Gc,dP⟩
     case measure=>simp[intOf];omega
  .have aT:k=q:=by omega
   subst aT;have hR:=O.o;rw[List.drop_eq_nil_of_le Rp]at hR;have an:R=(u,.ok ⟨5,ob,⟨#[]⟩⟩):=hR;subst an;obtain⟨q0,q1,q2,z0,z1,z2⟩:=(F.o.fr g.o).six;clear hR O;go_wp2;refine Yp (v:=.tuple #[.agg #[vI 5,vI ob,.string ⟨#[]⟩],.nilIface]) ?_ rfl ?_;·exact Aq
   .exact .fine F.o HBZ.o J.o g.o
end
