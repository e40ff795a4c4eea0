/- Package tree: primary. -/
import Derived.Test.YtjikfacdcdiddaaGreatDoorJ13
set_option linter.unusedSimpArgs false
set_option maxRecDepth 100000
set_option maxHeartbeats 20000000
set_option linter.unusedVariables false
namespace Go.Proofs.YtjikfacdcdiddaaGreatDoor
open Go Go.RowKit Go.Maps
def Ss:List (ByteArray×Int):=[(SA,19),(SQ,20),(Tn,21),(TL,22)]
def To:DataW Unit:=SR Ss
theorem Zk4:To=.map [(.string SQ.data.toList,.lit (.int .i64 20)),(.string Tn.data.toList,.lit (.int .i64 21)),(.string SA.data.toList,.lit (.int .i64 19)),(.string TL.data.toList,.lit (.int .i64 22))]:=by kernel_rfl
theorem Zlu{g:Lit}(h:Maps.has To g=true):∃x∈Ss,g=.string x.1.data.toList:=by
 rw[Zk4]at h;obtain⟨p,hp,hk⟩:=List.any_eq_true.1 h;have e:=WideAt.sameKey_eq hk;simp only[List.mem_cons,List.not_mem_nil,or_false]at hp;rcases hp with rfl|rfl|rfl|rfl;·exact⟨(SQ,20),by simp[Ss],e.symm⟩
 .exact⟨(Tn,21),by simp[Ss],e.symm⟩
 .exact⟨(SA,19),by simp[Ss],e.symm⟩
 .exact⟨(TL,22),by simp[Ss],e.symm⟩
theorem Zh4{x:ByteArray×Int}(h:x∈Ss):Maps.has To (.string x.1.data.toList)=true∧To.atKey (.string x.1.data.toList) (.lit (.int .i64 0))=.lit (.int .i64 x.2):=by
 simp only[Ss,List.mem_cons,List.not_mem_nil,or_false]at h;rcases h with rfl|rfl|rfl|rfl<;>exact⟨by kernel_rfl,by kernel_rfl⟩
theorem Zmg{s:ByteArray}{ts:List Tok}(h:aa s ts=true):(bL ts).text=s:=by
 simp only[aa,Bool.and_eq_true,Zg,decide_eq_true_eq]at h;exact h.2
theorem Ww{s s':ByteArray}{ts:List Tok}(h:aa s ts=true)(hn:s≠s'):aa s' ts=false:=by
 have:=Zmg h;simp only[aa,this];have:Zg s s'=false:=by simp[Zg,hn]
 simp[this]
theorem Zko{x:ByteArray×Int}{ts:List Tok}(h:x∈Ss)(hx:aa x.1 ts=true):L1 ts=x.2∧x.2≠0:=by
 simp only[Ss,List.mem_cons,List.not_mem_nil,or_false]at h;rcases h with rfl|rfl|rfl|rfl;·exact⟨by unfold L1;rw[Y5 hx],by decide⟩
 .exact⟨by unfold L1;rw[Ww hx (s':=SA) Pa];simp only at hx;simp[hx],by decide⟩
 .exact⟨by unfold L1;rw[Ww hx (s':=SA) Pa,Ww hx (s':=SQ) Pa];simp only at hx;simp[hx],by decide⟩
 .exact⟨by unfold L1;rw[Ww hx (s':=SA) Pa,Ww hx (s':=SQ) Pa,Ww hx (s':=Tn) Pa];simp only at hx;simp[hx],by decide⟩
theorem Zi2{ts:List Tok}(h:∀x∈Ss,aa x.1 ts=false):L1 ts=0:=by
 have g:=h (SA,19) Rz;have m:=h (SQ,20) Rz;have o:=h (Tn,21) Rz;have p:=h (TL,22) Rz;simp only at g m o p;simp[L1,g,m,o,p]
theorem keyOf_string_inv{P:Program}{k:TypeId}(hk:P.underlying k=some .string){g:Value}{m:Lit}(h:keyOf P k g=some m):∃x:ByteArray,g=.string x∧m=.string x.data.toList:=by
 unfold keyOf at h;rw[hk]at h;simp only at h;unfold mapKey at h;rw[hk]at h;cases g<;>simp at h
 obtain⟨_,rfl⟩:=h;exact⟨_,rfl,rfl⟩
theorem Zcs(f:Nat)(hA:c9 101 cQ .around f)
 (zm:∀s,c9 99 (λrb=>#[vP rb,vI 37,.string s]) (.func 37 s) f)
 (hO:c9 166 cQ (.object []) f):c9 164 cQ .primary (f+1):=by
 intro w rb B d ts r hP hp;have HA:=lh hA;have vq:=lh zm;have HO:=lh hO;have HP:=lh hP;obtain⟨tb,off,cap,h⟩:=hP.rd;have c0:=h.c0;have z0:=h.fz 0;refine Zov ?_;intro t0 t1 t2 t3;have H9:=h.pos;have hm:=h.most;have dG:=h.le;unfold maxLen at hm;have HH:=lh h;obtain⟨n,hn⟩:=zX ts.length
 rw[<-hn]at c0 H9 dG;have F:=lh hn;have vu:=h.lt;have yo:=h.rlt;have aA:=hP.lt;simp only[Nat.add_zero]at t0;have HQ:=lh hp;obtain⟨Z,bG⟩:=zX ((bL ts).kind)
 rw[<-bG]at t0;have kS:=lh bG;obtain⟨w1,eh⟩:=zX (w.alloc (.cells #[vI Z,.string (bL ts).text,(vI (bL ts).n),(vI (bL ts).at')] 141))
 have aL:Below w.heap.size w w1:=Qi
 have P1:=lh (hP.below aL);have B1:=lh aL;have F1:=lh (RFr.below (rb:=rb) aL);have nW:=lh eh;clear hP hp h hn bG hA zm hO aL eh;unfold cQ;by_cases k1:Z=1
 .subst k1;have hq:=HQ.o;rw[Z3,Y5 kS.o.symm]at hq;have hr:=Yc hq;have HR:=lh hr.symm;have HC:=lh (Tj w1 rb ts d P1.o.rd kS.o.symm);clear hq hr;go_enter Tryz.func164,Tryz.ntmps164
  go_wp2_with fail
  rw[<-nW.o];refine HC.o.mono ?_;rintro e w2⟨rfl,am,aq⟩;have F2:=lh (F1.o.trans aq);have R2:=lh am;obtain⟨s,hs⟩:=zX ((bL ts).text)
  rw[<-hs];have HS:=lh hs;have F:=lh (Zv w2 rb 23 s none 0 0);have G3:=lh (Got.leaf (k:=23) (t:=s) (n:=0) HP.o.le F2.o);clear am aq HC hs;go_wp2_with fail
  refine F.o.mono ?_;rintro e m⟨rfl,kF⟩;have cP:Below w2.heap.size w2 m:=QW
  have AL:=lh cP;have xJ:=lh kF;clear cP kF F;go_wp2;go_ret;rw[HR.o,<-HS.o];exact⟨_,rfl,by rw[xJ.o];exact G3.o,R2.o.below AL.o,F2.o.trans (RFr.below AL.o)⟩
 have n1:(Z==1)=false:=by simpa using k1
 have K1:=lh k1;clear k1;by_cases k3:Z=3
 .subst k3;have hq:=HQ.o;rw[Z3,Y3 QO,Y5 kS.o.symm]at hq;have hr:=Yc hq;have HR:=lh hr.symm;have vw:(bL ts).kind≠6:=by rw[<-kS.o];decide
  have h2:=HH.o.two vw;rw[<-F.o]at h2;have g:=lh (HH.o.tail vw);clear hq hr vw;go_enter Tryz.func164,Tryz.ntmps164
  go_wp2_with fail
  refine(Zv _ rb 17 ⟨#[]⟩ none 0 0).mono ?_;rintro e m⟨rfl,rfl⟩;go_wp2;go_ret;have X:=g.o;rw[<-F.o]at X;refine Vv ?_;intro hb;refine Zw2 ?_;intro F2 ax;rw[HR.o];refine⟨_,?pt,Got.leaf (k:=17) (t:=⟨#[]⟩) (n:=(bL ts).n) HP.o.le (F2 _),⟨tb,off+4,cap-1,(X.below (hb _)).below (ax _ _)⟩,(F2 _).trans (RFr.below (ax _ _))⟩;case pt=>simp[ATree.b]
 have n3:(Z==3)=false:=by simpa using k3
 have K3:=lh k3;clear k3;by_cases k4:Z=4
 .subst k4;have hq:=HQ.o;rw[Z3,Y3 QO,Y3 (by rw[<-kS.o];exact K3.o),Y5 kS.o.symm]at hq;have hr:=Yc hq;have HR:=lh hr.symm;have vw:(bL ts).kind≠6:=by rw[<-kS.o];decide
  have h2:=HH.o.two vw;rw[<-F.o]at h2;have g:=lh (HH.o.tail vw);clear hq hr vw;go_enter Tryz.func164,Tryz.ntmps164
  go_wp2_with fail
  refine(Zv _ rb 18 (bL ts).text none 0 0).mono ?_;rintro e m⟨rfl,rfl⟩;go_wp2;go_ret;have X:=g.o;rw[<-F.o]at X;refine Vv ?_;intro hb;refine Zw2 ?_;intro F2 ax;rw[HR.o];refine⟨_,?pt,Got.leaf (k:=18) (t:=(bL ts).text) (n:=0) HP.o.le (F2 _),⟨tb,off+4,cap-1,(X.below (hb _)).below (ax _ _)⟩,(F2 _).trans (RFr.below (ax _ _))⟩;case pt=>simp[ATree.b]
 have n4:(Z==4)=false:=by simpa using k4
 have K4:=lh k4;clear k4;have kI:=HQ.o;rw[Z3,Y3 QO,Y3 (by rw[<-kS.o];exact K3.o),Y3 (by rw[<-kS.o];exact K4.o)]at kI;have su:=lh kI;clear kI;have mm:=@run_makeMap Tryz.prog;have h0:=World.ownsMap_made (H:=Unit) w1 Tryz.prog 9 (plainElem Tryz.prog 3);have cE:Below w1.heap.size w1 (w1.alloc (.map #[] 0)):=(Y2 _ _).alloc (Y0 _) _;have jL:=lh cE;rw[nW.o,World.size_alloc]at h0;clear cE;go_enter Tryz.func164,Tryz.ntmps164
 go_wp2_with (first|(refine Zo _ rfl _ _ _ 237 rfl 9 3 Tryz.keyedS Tryz.underlying237 _ _ 0 _ rfl h0 Pc _ _ _ rfl rfl (Yo Yj Pa) _ [] (plainElem_int Yk Pa) ?_;intro v1 h1 g1)|(refine Zo _ rfl _ _ _ 237 rfl 9 3 Tryz.keyedS Tryz.underlying237 _ _ 1 _ rfl h1 Pc _ _ _ rfl rfl (Yo Yj Pa) _ [] (plainElem_int Yk Pa) ?_;intro v2 h2 g2)|(refine Zo _ rfl _ _ _ 237 rfl 9 3 Tryz.keyedS Tryz.underlying237 _ _ 2 _ rfl h2 Pc _ _ _ rfl rfl (Yo Yj Pa) _ [] (plainElem_int Yk Pa) ?_;intro v3 h3 g3)|(refine Zo _ rfl _ _ _ 237 rfl 9 3 Tryz.keyedS Tryz.underlying237 _ _ 3 _ rfl h3 Pc _ _ _ rfl rfl (Yo Yj Pa) _ [] (plainElem_int Yk Pa) ?_;intro v4 X g4)|(at_range;refine wpList_range_own _ rfl _ 237 rfl 9 3 Tryz.keyedS Tryz.underlying237 _ _ _ _ rfl X ?_;intro v5 zr IO Cg))
 obtain⟨mb,jo⟩:=zX (w.heap.size+1)
 have bo:w1.heap.size=mb:=by rw[nW.o,jo];simp
 obtain⟨it,jA⟩:=zX v4.heap.size
 have Ej:=So jL.o (by rw[<-nW.o]at g1;exact g1) O' jL.o.size;have B2:=So Ej g2 O' Ej.size;have B3:=So B2 g3 O' B2.size;have B4:=So B3 g4 O' B3.size;have B5:Below w1.heap.size w1 v5:=B4.grown IO B4.size (λj hj=>by cases hj);have zt:w1.heap.size<=it:=by rw[jA];exact B4.size
 have vy:v5.ranges Tryz.prog 9 (plainElem Tryz.prog 3) mb it 4 To (Maps.has To) (Maps.size To):=by rw[jo,jA];exact zr
 have Ek:=lh vy;have B5:=lh B5;rw[<-jo,<-jA];have El:=lh jo;have Ol:=lh jA;have Ch:=lh bo;have Em:=lh zt;clear zr IO Cg h0 h1 h2 h3 X g1 g2 g3 g4 Ej B2 B3 B4 vy jo jA bo zt jL mm
 go_loopw [] (λwr=>∃(left:Lit->Bool) (En:Nat),wr.ranges Tryz.prog 9 (plainElem Tryz.prog 3) mb it 4 To left En∧Hid (∀kl,left kl=true->Maps.has To kl=true)∧
  Hid (∀s:ByteArray,Maps.has To (.string s.data.toList)=true->left (.string s.data.toList)=false->aa s ts=false)∧Hid (Below w1.heap.size w1 wr)) (λwr=>wr.rangeLeft mb it)
 case atStart=>exact⟨_,_,Ek.o,lh (λ_ h=>h),lh (λs h1 h2=>by rw[h1]at h2;cases h2),B5⟩
 case round=>
  obtain⟨left,En,vy,IP,ye,BW⟩:=hrel;go_wp2_with (at_next;refine wpList_next_ranges _ rfl _ rfl 9 Tryz.keyedS _ (λx:ByteArray=>Value.string x) (λc:Int=>Value.int .i64 c) (λkey kl h=>by obtain⟨x,h,_⟩:=keyOf_string_inv Yj h;exact⟨x,h⟩) (λv y h=>by obtain⟨c,h,_⟩:=plainElem_int_inv Yk h;exact⟨c,h⟩) mb it 4 _ left En rfl vy ?_ ?_)
  .intro _ og;have lx:L1 ts=0:=Zi2 λx hx=>ye.o x.1 (Zh4 hx).1 (og _);have hq:=su.o;rw[Y3 (λh=>h lx)]at hq;have d7:=lh hq;have P5:=lh (P1.o.below BW.o);have F5:=lh (F1.o.trans (RFr.below (rb:=rb) BW.o));clear og lx hq vy;by_cases h1:aa ub ts=true
   .have hq:=d7.o;rw[Y5 h1]at hq;have u:=LI wr rb ts d ub P5.o.rd;rw[h1]at u;unfold ub at u;have u:=lh u;have cC:=lh hq;clear h1 hq;go_wp2_with fail
    refine u.o.mono ?_;rintro e w2⟨rfl,au⟩;have HC:=HA.o w2 rb B d ts r (P5.o.below au) cC.o;unfold cQ at HC;have HC:=lh HC;have F2:=lh (F5.o.trans (RFr.below (rb:=rb) au));clear au u;go_wp2_with fail
    refine HC.o.mono ?_;rcases r with⟨c,p⟩|⟨t,ts'⟩
    .rintro e m⟨⟨b,rfl,h1,h2⟩,hF⟩;exact⟨rfl,ll.pre F2.o (r:=.error (c,p)) ⟨⟨b,rfl,h1,h2⟩,hF⟩⟩
    .rintro e m⟨a,rfl,hG,hR,hF⟩;exact U'
   have BT:aa ub ts=false:=by simpa using h1
   have hq:=d7.o;rw[Y3 h1]at hq;have cC:=lh hq;have u:=LI wr rb ts d ub P5.o.rd;rw[BT]at u;unfold ub at u;have u:=lh u;clear h1 BT hq;go_wp2_with fail
   refine u.o.mono ?_;rintro e w2⟨rfl,au⟩;have J:=lh (P5.o.below au);have F2:=lh (F5.o.trans (RFr.below (rb:=rb) au));clear au u;by_cases h2:aa NR ts=true
   .have hq:=cC.o;rw[Y5 h2]at hq;have g:=wR w2 rb ts d NR J.o.rd h2;unfold NR at g;have g:=lh g;have m':=lh hq;clear h2 hq;go_wp2_with fail
    refine g.o.mono ?_;rintro e m⟨rfl,bK,bq⟩;have Y:=lh (J.o.tail bK bq);have I:=lh (F2.o.trans bq);obtain⟨GR,yp,je,O⟩:=bK;have q0:=O.c0;have q1:=O.hd (j:=0) (x:=(vI (bL ts.tail).kind)) rfl;rw[Nat.add_zero]at q1;have q2:=O.pos;obtain⟨n2,cG⟩:=zX ts.tail.length
    rw[<-cG]at q0 q2;clear O bq g cG;by_cases hk:(bL ts.tail).kind=1
    .have e1:((bL ts.tail).kind==1)=true:=by simpa using hk
     have hq:=m'.o;rw[Y5 hk]at hq;have HC:=lh (Tj m rb ts.tail d Y.o.rd hk);obtain⟨s,hs⟩:=zX ((bL ts.tail).text)
     rw[<-hs]at HC hq;have fw:=lh hq;clear hk hq hs;go_wp2_with fail
     refine HC.o.mono ?_;rintro e U⟨rfl,eZ,bh⟩;have bS:=vq.o s U rb B d _ r (Y.o.tail eZ bh) fw.o;simp only at bS;have bS:=lh bS;have F4:=lh (I.o.trans bh);clear eZ bh HC;go_wp2_with fail
     refine bS.o.mono ?_;rcases r with⟨c,p⟩|⟨t,ts'⟩
     .rintro e m⟨⟨b,rfl,h1,h2⟩,hF⟩;exact Uj
     .rintro e m⟨a,rfl,hG,hR,hF⟩;exact Zuk
    .have e1:((bL ts.tail).kind==1)=false:=by simpa using hk
     have hq:=m'.o;rw[Y3 hk]at hq;have bS:=vq.o ByteArray.empty m rb B d _ r Y.o hq;simp only at bS;have bS:Calls Tryz.prog 99 #[vP rb,vI 37,.string ⟨#[]⟩] m (ll m rb B d r):=bS;have bS:=lh bS;clear hk hq;go_wp2_with fail
     refine bS.o.mono ?_;rcases r with⟨c,p⟩|⟨t,ts'⟩
     .rintro e U⟨⟨b,rfl,h1,h2⟩,hF⟩;exact⟨rfl,ll.pre I.o (r:=.error (c,p)) ⟨⟨b,rfl,h1,h2⟩,hF⟩⟩
     .rintro e U⟨a,rfl,hG,hR,hF⟩;have HG:=lh (hG.pre I.o);have HR:=lh hR;have HF:=lh (I.o.trans hF);clear hG hR hF bS;go_wp2;go_ret;exact⟨a,rfl,HG.o,HR.o,HF.o⟩
   have uW:aa NR ts=false:=Q6
   have hq:=cC.o;rw[Y3 h2]at hq;have m':=lh hq;have g:=xk w2 rb ts d NR J.o.rd uW;unfold NR at g;have g:=lh g;clear h2 uW hq;go_wp2_with fail
   refine g.o.mono ?_;rintro e m⟨rfl,E⟩;have Y:=lh (J.o.below E);have I:=lh (F2.o.trans (RFr.below (rb:=rb) E));clear E g;by_cases h3:aa CW ts=true
   .have hq:=m'.o;rw[Y5 h3]at hq;have g:=wR m rb ts d CW Y.o.rd h3;unfold CW at g;have g:=lh g;have fw:=lh hq;clear h3 hq;go_wp2_with fail
    refine g.o.mono ?_;rintro e U⟨rfl,eZ,bh⟩;have HC:=HO.o U rb B d _ r (Y.o.tail eZ bh) fw.o;unfold cQ at HC;have HC:=lh HC;have F4:=lh (I.o.trans bh);clear eZ bh g;go_wp2_with fail
    refine HC.o.mono ?_;rcases r with⟨c,p⟩|⟨t,ts'⟩
    .rintro e w5⟨⟨b,rfl,h1,h2⟩,hF⟩;exact Uj
    .rintro e w5⟨a,rfl,hG,hR,hF⟩;have HG:=lh (hG.pre F4.o);have HR:=lh hR;have HF:=lh (F4.o.trans hF);clear hG hR hF HC;go_wp2;go_ret;exact⟨a,rfl,HG.o,HR.o,HF.o⟩
   have tu:aa CW ts=false:=Ro
   have hq:=m'.o;rw[Y3 h3]at hq;obtain rfl:=Yc hq;have g:=xk m rb ts d CW Y.o.rd tu;unfold CW at g;have g:=lh g;clear h3 tu hq;go_wp2_with fail
   refine g.o.mono ?_;rintro e U⟨rfl,eQ⟩;have HF:=lh (S7 U rb ts d 3 (Y.o.rd.below eQ));have F4:=lh (I.o.trans (RFr.below (rb:=rb) eQ));clear eQ g;go_wp2_with fail
   refine HF.o.mono ?_;rintro e w5⟨⟨b,rfl,h1,h2⟩,hB⟩;exact⟨rfl,ll.err F4.o ⟨b,rfl,h1,h2⟩ hB⟩
  .intro x c kl y ys w2 Eo oh IQ pu fU zu zw jh cO vz;have ax:Below w1.heap.size w1 w2:=So BW.o jh Em.o BW.o.size;have B2:=lh ax;obtain⟨x',e,rfl⟩:=keyOf_string_inv Yj oh;obtain rfl:x=x':=by cases e;rfl
   obtain⟨z,hz,IR⟩:=Zlu (IP.o _ IQ);have sw:x=z.1:=by
    have:x.data.toList=z.1.data.toList:=by simpa using IR
    exact Z4y (by rw[Lib.toList_data,Lib.toList_data];exact this)
   obtain⟨c',e1,e2,_⟩:=plainElem_int_inv Yk pu;obtain rfl:c=c':=by cases e1;rfl
   have DZ:c=z.2:=by
    have h1:=fU (.lit (.int .i64 0));simp only[Prod.mk.injEq]at e2;rw[sw,(Zh4 hz).2,e2.1]at h1;simpa using h1.symm
   have HZ:=lh hz;have LG:=lh sw;have LH:=lh DZ;have Ep:=lh zu;have Ek:=lh vy;have kM:=lh zw;have J:=P1.o.below ax;clear e IR sw e1 e2 DZ hz ax zu vy IQ pu fU oh zw jh cO;by_cases hs:aa x ts=true
   .have O:=Zko HZ.o (ts:=ts) (by rw[<-LG.o];exact hs);have hq:=su.o;rw[Y5 (by rw[O.1];exact O.2),O.1]at hq;have hr:=Yc hq;have HR:=lh hr.symm;have g:=lh (wR w2 rb ts d x J.rd hs);clear hs O hq hr J;go_wp2_with fail
    refine g.o.mono ?_;rintro e m⟨rfl,bK,bq⟩;have R3:=lh bK;have I:=lh ((F1.o.trans (RFr.below (rb:=rb) B2.o)).trans bq);have F:=lh (Zv m rb c ⟨#[]⟩ none 0 0);have G3:=lh (Got.leaf (k:=c) (t:=⟨#[]⟩) (n:=0) HP.o.le I.o);clear bK bq g;go_wp2_with fail
    refine F.o.mono ?_;rintro e U⟨rfl,ew⟩;have cP:Below m.heap.size m U:=by rw[ew];exact(Y2 _ _).alloc (Y0 _) _
    have AL:=lh cP;have sx:=lh ew;clear cP ew F;go_wp2;go_ret;rw[HR.o,<-LH.o];exact⟨_,rfl,by rw[sx.o];exact G3.o,R3.o.below AL.o,I.o.trans (RFr.below AL.o)⟩
   .have dZ:aa x ts=false:=by simpa using hs
    have g:=lh (xk w2 rb ts d x J.rd dZ);have HS:=lh dZ;clear hs dZ J;go_wp2_with fail
    refine g.o.mono ?_;rintro e m⟨rfl,E⟩;have B3:=lh E;have lA:w2.grownBy m none:=⟨E.os,E.tape,E.output,E.size,λi hi _=>E.block i hi⟩
    have zx:=lh (Ep.o.kept lA Pg Pg);clear E lA;go_wp2;go_roundw
    case rel=>
     refine⟨_,Eo,zx.o,lh (λkl ba=>IP.o kl (by simp only[Bool.and_eq_true]at ba;exact ba.1)),lh (λs h1 h2=>?_),lh (B2.o.trans (B3.o.mono B2.o.size))⟩;by_cases hl:left (.string s.data.toList)=true
     .rw[hl]at h2;simp only[Bool.true_and,Bool.not_eq_false']at h2;have e:=WideAt.sameKey_eq h2;have:s=x:=Z4y (by rw[Lib.toList_data,Lib.toList_data];simpa using e);rw[this];exact HS.o
     .exact ye.o s h1 (by simpa using hl)
    case measure=>rw[zx.o.left_eq,Ek.o.left_eq];exact kM.o
end Go.Proofs.YtjikfacdcdiddaaGreatDoor
namespace Go.Proofs.YtjikfacdcdiddaaGreatDoor
open Go Go.RowKit
def MM(F d:Nat)(l:List Tree)(ts:List Tok):PR:=
 if aa CP ts then Zr (Z3 F (.block false) d ts.tail) λc ts=>iy (.mk 12 ByteArray.empty 0 (l++[.mk 14 ByteArray.empty 0 [c]])) ts
 else if l.length=1 then vg 3 ts else iy (.mk 12 ByteArray.empty 0 l) ts
def Zjx(F d:Nat)(b:Tree)(ts:List Tok):PR:=
 if aa TS ts then iB ub ts.tail λts=>wc ts λs ts=>iB sg ts λts=>Zr (Z3 F (.block false) d ts) λc ts=>MM F d [b,.mk 13 s 0 [c]] ts
 else MM F d [b] ts
theorem Zii(F d:Nat)(ts:List Tok):Z3 (F+1) .try_ d ts=Zr (Z3 F (.block false) d ts) λb ts=>Zjx F d b ts:=rfl
theorem Zny(F:Nat)(hB:c9 95 (λrb=>#[vP rb,.bool false]) (.block false) F) :
 c9 103 cQ .try_ (F+1):=by
 intro w rb B d ts r hP hp;rw[Zii]at hp;have HP:=lh hP;have HB:=lh hB;have H1:=lh hp;have aA:=hP.lt;unfold cQ;clear hP hp hB;rcases Zf H1.o with⟨⟨c,p⟩,hv,rfl⟩|⟨t0,us,hv,h2⟩
 .have HC:=HB.o w rb B d _ _ HP.o hv;simp only at HC;have HC:=lh HC;clear hv;go_enter Tryz.func103,Tryz.ntmps103
  exact Zsm
 have HC:=HB.o w rb B d _ _ HP.o hv;simp only at HC;have HC:=lh HC;have HL:=lh (RX hv);have su:=lh h2;clear hv h2;go_enter Tryz.func103,Tryz.ntmps103
 go_wp2_with fail
 refine HC.o.mono ?_;rintro e w1⟨g,rfl,zh,dF,dm⟩;have ai:Below w1.heap.size w1 (w1.alloc (.cells #[vP g.b] 22)):=(Y2 _ _).alloc (Y0 _) _;have ax:Below w1.heap.size w1 ((w1.alloc (.cells #[vP g.b] 22)).alloc (.cells #[vI 12,.string ⟨#[]⟩,vI 0,.slice (some ⟨w1.heap.size,0,none⟩) 1 1] 42)):=ai.alloc Pg _;have hA:=Got.one (k:=12) (t:=⟨#[]⟩) HP.o.le dm zh;have am:=dF.below ax;have O:=dm.trans (RFr.below (rb:=rb) ax)
 have HN:=lh (Zv (w1.alloc (.cells #[vP g.b] 22)) rb 12 ⟨#[]⟩ (some ⟨w1.heap.size,0,none⟩) 1 1);obtain⟨sb,U⟩:=zX w1.heap.size
 rw[<-U]at HN hA ax am O;go_wp2_with fail
 rw[<-U];refine HN.o.mono ?_;rintro e w2⟨rfl,cw⟩;have be:(w1.alloc (.cells #[vP g.b] 22)).heap.size=sb+1:=by rw[U];simp
 rw[be];obtain⟨nb,dw⟩:=zX (sb+1)
 rw[<-dw]at hA ⊢;have hA:Got w B w2 (.mk nb (.slice (some ⟨sb,0,none⟩) 1 1) 12 ⟨#[]⟩ 0 [g]) (.mk 12 ⟨#[]⟩ 0 [t0]):=by rw[cw];exact hA
 rw[<-cw]at am O;have N:=lh hA;have FQ:=lh O;have PQ:=lh (HP.o.next am O HL.o);have cJ:=lh U;clear zh dF dm ai ax hA am O HN U cw be dw HC;by_cases hc:aa TS us=true
 ·have hq := su.o;unfold Zjx at hq;rw [Y5 hc] at hq;have d7 := lh hq;have HT := wR _ rb us d TS PQ.o.rd hc;unfold TS at HT;have HT := lh HT;clear hc hq;go_wp2_with fail
  refine HT.o.mono ?_;rintro e w3⟨rfl,bK,bq⟩;have N:=lh (N.o.rfr aA bq);have PQ:=lh (PQ.o.tail bK bq);have FQ:=lh (FQ.o.trans bq);clear bK bq HT;rcases Sy d7.o with⟨hs,h2⟩|⟨hs,rfl⟩
  .have HT:=Hb _ rb us.tail d ub PQ.o.rd hs;unfold ub at HT;have HT:=lh HT;have X:=lh h2;clear hs h2;go_wp2_with fail
   refine HT.o.mono ?_;rintro e w4⟨rfl,Y,I⟩;have N:=lh (N.o.rfr aA I);have PQ:=lh (PQ.o.tail Y I);have FQ:=lh (FQ.o.trans I);clear Y I HT;rcases V5 X.o with⟨hk,h1⟩|⟨hk,rfl⟩
   .have HT:=lh (Tj _ rb us.tail.tail d PQ.o.rd hk);obtain⟨s,hs⟩:=zX ((bL us.tail.tail).text)
    rw[<-hs]at HT h1;have m':=lh h1;clear hk h1 hs;go_wp2_with fail
    refine HT.o.mono ?_;rintro e w5⟨rfl,kQ,em⟩;have N:=lh (N.o.rfr aA em);have PQ:=lh (PQ.o.tail kQ em);have FQ:=lh (FQ.o.trans em);clear kQ em HT;rcases Sy m'.o with⟨hs,h2⟩|⟨hs,rfl⟩
    .have HT:=Hb _ rb us.tail.tail.tail d sg PQ.o.rd hs;unfold sg at HT;have HT:=lh HT;have Z:=lh h2;clear hs h2;go_wp2_with fail
     refine HT.o.mono ?_;rintro e w6⟨rfl,jJ,fM⟩;have N:=lh (N.o.rfr aA fM);have PQ:=lh (PQ.o.tail jJ fM);have FQ:=lh (FQ.o.trans fM);have HL:=lh (show us.tail.tail.tail.tail.length<=ts.length by have:=HL.o;simp only[List.length_tail];omega);clear jJ fM HT;refine NQ ?_;intro ac;have u:vC w6 nb 3 (.slice (some ⟨sb,0,none⟩) 1 1):=Pd
     clear ac;go_wp2_with fail
     refine Z8 [0,2,4,6,8,10,12,14,17,19,21,23,25] [13,14,15] (λW=>vC W nb 3 (.slice (some ⟨sb,0,none⟩) 1 1)) u λ_=>?_;refine dW ?_
     iterate 8
      refine dV ?_
     refine Z6 (λK hK=>?_);go_simp
     have P7:Pre w6.drew rb B d _:=PQ.o.below (Y2 _ _).drew;rcases Zf Z.o with⟨⟨c,p⟩,hv,rfl⟩|⟨t,vs,hv,fY⟩
     .refine(HB.o w6.drew rb B d _ _ P7 hv).mono ?_;exact SJ
     have dA:=RX hv;have fw:=lh fY;refine(HB.o w6.drew rb B d _ _ P7 hv).mono ?_;rintro e w7⟨x,rfl,hX,lU,dK⟩;have fd:RFr w6 w7 rb:=(RFr.refl w6 rb).drew.trans dK;have kr:=N.o.rfr aA fd;have ac:=kr.at'.blkOf;simp only[ATree.b,ATree.v,ATree.kind,ATree.text,ATree.n]at ac;have m3:vC w7 nb 3 (.slice (some ⟨sb,0,none⟩) 1 1):=Pd
     refine hK _ _ m3 ?_;clear hK K;refine S5 ?_;intro K hK ai;refine hK _ _ ((ai.cell (p:=⟨nb,3,none⟩) (Y1.1 ac).1).trans m3) ?_;clear hK K;refine Z6 (λK hK=>?_);go_simp
     have hA:=Got.one (w0:=w6.drew) (w:=w7) (rb:=rb) (k:=13) (t:=s) (Y4 HP.o.le FQ.o.size) dK hX;have ax:Below w7.heap.size w7 ((w7.alloc (.cells #[vP x.b] 22)).alloc (.cells #[vI 13,.string s,vI 0,.slice (some ⟨w7.heap.size,0,none⟩) 1 1] 42)):=ai.alloc Pg _;refine(Zv (w7.alloc (.cells #[vP x.b] 22)) rb 13 s (some ⟨w7.heap.size,0,none⟩) 1 1).mono ?_;rintro e dD⟨rfl,dl⟩
     have hA:Got w6.drew B dD (.mk (w7.heap.size+1) (.slice (some ⟨w7.heap.size,0,none⟩) 1 1) 13 s 0 [x]) (.mk 13 s 0 [t]):=Rr
     rw[<-dl]at ax;refine Zpo ?_;intro eM bK dy;clear ac m3 dl ai;refine sJ ?_;intro ac;have m3:vC dD nb 3 (.slice (some ⟨sb,0,none⟩) 1 1):=Pd
     refine BS ?_;intro mz de dJ aK;have gz:([g]).length<=8:=Pg
     refine XS ?_;intro gd;rw[gd];obtain⟨a,ha⟩:∃a:ATree,a=.mk (w7.heap.size+1) (.slice (some ⟨w7.heap.size,0,none⟩) 1 1) 13 s 0 [x]:=⟨_,rfl⟩
     rw[<-ha]at hA;refine ZO ?_;intro jy;rw[show vP _=_ from jy];clear ha jy gd;refine Xf ?_;intro N3 A3 R3 jd NE;have NA:=lh (show∀y∈(ATree.mk nb (.slice (some ⟨sb,0,none⟩) 1 1) 12 ⟨#[]⟩ 0 [g]).blocks,y<w6.drew.heap.size from λy hy=>(N.o.new y hy).2);have fX:=lh dA;refine s5 ?_;intro i0 hi aD bo bT;clear hK K hA bK dy eM ac dJ aK u hX lU dK fd kr ax hv fY P7 dA;refine ta ?_;intro K hK
     refine step_append_lies _ Po (.tmp 22) (.tmp 29) 40 Po B 22 i0 _ 1 8 Tryz.underlying40 hi aD bo bT rfl Pa (.slice (some ⟨sb,0,none⟩) 1 1) ([g]).length (([g]).map ATree.ptr) Po (N3.o.at'.rowOf.alloc _) ⟨dD.heap.size,0,none⟩ 1 1 [a.ptr] Po rfl (Ya (cs:=#[a.ptr]) (t:=22) (fr:=(0,0)) (heap_alloc_new dD _)) Pq Pa Pc O' Pp (dD.heap.size+1) Pg ?_;intro m cap w4 aT aC bX cg
     have m4:vC w4 nb 3 (.slice (some ⟨sb,0,none⟩) 1 1):=(aC.cell_far ⟨nb,3,none⟩ Pe (λe=>NE.o e.symm)).trans ((Zb de).trans m3);refine RF ?_;clear hK K;intro lT;have aj:=Got.push aA HP.o.le N3.o (wA:=w6.drew) NA.o A3.o jd.o R3.o ((Below.refl _ _).alloc (Nat.le_refl _) _) aC aT (bX.imp id λh=>by omega) cg;have ca:=lh aj;clear aj;refine Z0 ?_;clear aC aT bX cg;go_wp2_with fail
     have uL:Got w B (w4.setCell ⟨nb,3,none⟩ (.slice (some ⟨m,0,none⟩) 2 cap)) (.mk nb (.slice (some ⟨m,0,none⟩) 2 cap) 12 ⟨#[]⟩ 0 [g,a]) (.mk 12 ⟨#[]⟩ 0 [t0,.mk 13 s 0 [t]]):=by
      have h1:=ca.o.1;have h2:=N.o.tree;exact y8
     have I:RFr w (w4.setCell ⟨nb,3,none⟩ (.slice (some ⟨m,0,none⟩) 2 cap)) rb:=ca.o.2.1;have Y:Rd (w4.setCell ⟨nb,3,none⟩ (.slice (some ⟨m,0,none⟩) 2 cap)) rb vs d:=ca.o.2.2;have IS:vs.length<=ts.length:=by have:=fX.o;have:=HL.o;omega
     have Es:Pre (w4.setCell ⟨nb,3,none⟩ (.slice (some ⟨m,0,none⟩) 2 cap)) rb B d vs:=HP.o.next Y I IS;obtain⟨w5,Ci⟩:=zX (w4.setCell ⟨nb,3,none⟩ (.slice (some ⟨m,0,none⟩) 2 cap))
     have Om:=lh Ci;rw[<-Ci]at uL I Es;have N:=lh uL;have FQ:=lh I;have PQ:=lh Es;have HQ:=lh (show MM F d [t0,.mk 13 s 0 [t]] vs=some r from fw.o);clear uL I Y IS Es ca m4 lT NA NE A3 N3 R3 jd m3 mz de gz;rw[<-Ci];clear Ci;obtain⟨c0,rfl⟩:∃c0:ATree,c0=a:=⟨_,rfl⟩
     obtain⟨tc,rfl⟩:∃tc:Tree,tc=t:=⟨_,rfl⟩
     obtain⟨E,rfl⟩:∃E:Nat,E=m:=⟨_,rfl⟩
     obtain⟨J,rfl⟩:∃c2:Nat,c2=cap:=⟨_,rfl⟩
     obtain⟨rr,rfl⟩:∃c2:List Tok,c2=vs:=⟨_,rfl⟩
     by_cases hf:aa CP rr=true
     .have hq:=HQ.o;unfold MM at hq;rw[Y5 hf]at hq;have Z:=lh hq;have HT:=wR _ rb rr d CP PQ.o.rd hf;unfold CP at HT;have HT:=lh HT;clear hf hq;go_wp2_with fail
      refine Zqt ?_;clear HT;intro wf N PQ FQ;refine NQ ?_;intro ac;have u:vC wf nb 3 (.slice (some ⟨E,0,none⟩) 2 J):=Pd
      clear ac;go_wp2_with fail
      refine Z8 [0,2,4,6,8,10,12,15,17,19,21,23] [12,13,14] (λW=>vC W nb 3 (.slice (some ⟨E,0,none⟩) 2 J)) u λ_=>?_;refine dW ?_
      iterate 7
       refine dV ?_
      refine Zo2 ?_;intro K hK P7;rcases Zf Z.o with⟨⟨c,p⟩,hv,rfl⟩|⟨t,vs,hv,fY⟩
      .refine(HB.o wf.drew rb B d _ _ P7 hv).mono ?_;exact SJ
      refine Zsu ?_;intro dA fw w7 x hX lU dK fd kr ac;have m3:vC w7 nb 3 (.slice (some ⟨E,0,none⟩) 2 J):=Pd
      refine hK _ _ m3 ?_;clear hK K;refine S5 ?_;intro K hK ai;refine hK _ _ ((ai.cell (p:=⟨nb,3,none⟩) (Y1.1 ac).1).trans m3) ?_;clear hK K;refine Z6 (λK hK=>?_);go_simp
      have hA:=Got.one (w0:=wf.drew) (w:=w7) (rb:=rb) (k:=14) (t:=⟨#[]⟩) (Y4 HP.o.le FQ.o.size) dK hX;refine Xd ?_;intro ax dD dl hA;rw[<-dl]at ax;have eM:=kr.rfr aA (RFr.below (rb:=rb) ax);have bK:=lU.below ax;have dy:RFr wf dD rb:=fd.trans (RFr.below ax);clear ac m3 dl ai;refine sJ ?_;intro ac;have m3:vC dD nb 3 (.slice (some ⟨E,0,none⟩) 2 J):=Pd
      refine BS ?_;intro mz de dJ aK;have gz:([g,c0]).length<=8:=Pg
      refine XS ?_;intro gd;rw[gd];obtain⟨a,ha⟩:∃a:ATree,a=.mk (w7.heap.size+1) (.slice (some ⟨w7.heap.size,0,none⟩) 1 1) 14 ⟨#[]⟩ 0 [x]:=⟨_,rfl⟩
      rw[<-ha]at hA;refine ZO ?_;intro jy;rw[show vP _=_ from jy];clear ha jy gd;refine Xf ?_;intro N3 A3 R3 jd NE;have NA:=lh (show∀y∈(ATree.mk nb (.slice (some ⟨E,0,none⟩) 2 J) 12 ⟨#[]⟩ 0 [g,c0]).blocks,y<wf.drew.heap.size from λy hy=>(N.o.new y hy).2);have fX:=lh dA;refine s5 ?_;intro i0 hi aD bo bT;clear hK K hA bK dy eM ac dJ aK u hX lU dK fd kr ax hv fY P7 dA;refine ta ?_;intro K hK
      refine step_append_lies _ Po (.tmp 39) (.tmp 45) 40 Po B 22 i0 _ 1 8 Tryz.underlying40 hi aD bo bT rfl Pa (.slice (some ⟨E,0,none⟩) 2 J) ([g,c0]).length (([g,c0]).map ATree.ptr) Po (N3.o.at'.rowOf.alloc _) ⟨dD.heap.size,0,none⟩ 1 1 [a.ptr] Po rfl (Ya (cs:=#[a.ptr]) (t:=22) (fr:=(0,0)) (heap_alloc_new dD _)) Pq Pa Pc O' Pp (dD.heap.size+1) Pg ?_
      intro m cap w4 aT aC bX cg;have m4:vC w4 nb 3 (.slice (some ⟨E,0,none⟩) 2 J):=(aC.cell_far ⟨nb,3,none⟩ Pe (λe=>NE.o e.symm)).trans ((Zb de).trans m3);refine RF ?_;clear hK K;intro lT;have aj:=Got.push aA HP.o.le N3.o (wA:=wf.drew) NA.o A3.o jd.o R3.o ((Below.refl _ _).alloc (Nat.le_refl _) _) aC aT (bX.imp id λh=>by omega) cg;have ca:=lh aj;clear aj;refine Z0 ?_;clear aC aT bX cg;have oT:=Yc fw.o;have pJ:=lh oT.symm;have ac:=ca.o.1.at'.blkOf;simp only[ATree.b,ATree.v,ATree.kind,ATree.text,ATree.n]at ac
      have e3:(w4.setCell ⟨nb,3,none⟩ (.slice (some ⟨m,0,none⟩) (([g,c0]).length+1) cap)).cell? ⟨nb,3,none⟩=some (.slice (some ⟨m,0,none⟩) (([g,c0]).length+1) cap):=by unfold World.cell?;rw[ac];rfl
      have n1:(((([g,c0]).length+1:Nat):Int)==1)=false:=Pg
      clear oT ac;go_wp2;go_ret;rw[pJ.o];refine⟨.mk nb (.slice (some ⟨m,0,none⟩) (([g,c0]).length+1) cap) 12 ⟨#[]⟩ 0 ([g,c0]++[a]),rfl,?_,ca.o.2.2,ca.o.2.1⟩;have h1:=ca.o.1;have h2:=N.o.tree;exact y8
     .have zy:aa CP rr=false:=by simpa using hf
      have hq:=HQ.o;unfold MM at hq;rw[Y3 hf]at hq;have X:=lh hq;have HT:=xk _ rb rr d CP PQ.o.rd zy;unfold CP at HT;have HT:=lh HT;clear hf zy hq;go_wp2_with fail
      refine HT.o.mono ?_;refine Zq7 ?_;intro wf kO N PQ FQ;refine NQ ?_;intro ac;have u:vC wf nb 3 (.slice (some ⟨E,0,none⟩) 2 J):=Pd
      clear kO HT ac;have hq:=X.o;rw[Y3 Pg]at hq;have pJ:=lh (Yc hq).symm;clear hq;go_wp2;go_ret;rw[pJ.o];exact⟨_,rfl,N.o,PQ.o.rd,FQ.o⟩
    .have HT:=RG _ rb us.tail.tail.tail d sg PQ.o.rd hs;unfold sg at HT;exact ZE
   .have HT:=lh (UU _ rb us.tail.tail d PQ.o.rd hk);clear hk;go_wp2_with fail
    refine HT.o.mono ?_;exact yR
  .have HT:=RG _ rb us.tail d ub PQ.o.rd hs;unfold ub at HT;exact ZE
 .have mL:aa TS us=false:=by simpa using hc
  have hq:=su.o;unfold Zjx at hq;rw[Y3 hc]at hq;have HQ:=lh hq;have HT:=xk _ rb us d TS PQ.o.rd mL;unfold TS at HT;have HT:=lh HT;clear hc mL hq;go_wp2_with fail
  refine HT.o.mono ?_;rintro e w3⟨rfl,aB⟩;have N:=lh (N.o.rfr aA (RFr.below (rb:=rb) aB));have PQ:=lh (PQ.o.below aB);have FQ:=lh (FQ.o.trans (RFr.below (rb:=rb) aB));clear aB HT;by_cases hf:aa CP us=true
  .have hq:=HQ.o;unfold MM at hq;rw[Y5 hf]at hq;have Z:=lh hq;have HT:=wR _ rb us d CP PQ.o.rd hf;unfold CP at HT;have HT:=lh HT;clear hf hq;go_wp2_with fail
   refine Zqt ?_;clear HT;intro wf N PQ FQ;refine NQ ?_;intro ac;have u:vC wf nb 3 (.slice (some ⟨sb,0,none⟩) 1 1):=Pd
   clear ac;go_wp2_with fail
   refine Z8 [0,2,4,6,8,10,12,15,17,19,21,23] [12,13,14] (λW=>vC W nb 3 (.slice (some ⟨sb,0,none⟩) 1 1)) u λ_=>?_;refine dW ?_
   iterate 7
    refine dV ?_
   refine Zo2 ?_;intro K hK P7;rcases Zf Z.o with⟨⟨c,p⟩,hv,rfl⟩|⟨t,vs,hv,fY⟩
   .refine(HB.o wf.drew rb B d _ _ P7 hv).mono ?_;exact SJ
   refine Zsu ?_;intro dA fw w7 x hX lU dK fd kr ac;have m3:vC w7 nb 3 (.slice (some ⟨sb,0,none⟩) 1 1):=Pd
   refine hK _ _ m3 ?_;clear hK K;refine S5 ?_;intro K hK ai;refine hK _ _ ((ai.cell (p:=⟨nb,3,none⟩) (Y1.1 ac).1).trans m3) ?_;clear hK K;refine Z6 (λK hK=>?_);go_simp
   have hA:=Got.one (w0:=wf.drew) (w:=w7) (rb:=rb) (k:=14) (t:=⟨#[]⟩) (Y4 HP.o.le FQ.o.size) dK hX;refine Xd ?_;intro ax dD dl hA;rw[<-dl]at ax;have eM:=kr.rfr aA (RFr.below (rb:=rb) ax);have bK:=lU.below ax;have dy:RFr wf dD rb:=fd.trans (RFr.below ax);clear ac m3 dl ai;refine sJ ?_;intro ac;have m3:vC dD nb 3 (.slice (some ⟨sb,0,none⟩) 1 1):=Pd
   refine BS ?_;intro mz de dJ aK;have gz:([g]).length<=8:=Pg
   refine XS ?_;intro gd;rw[gd];obtain⟨a,ha⟩:∃a:ATree,a=.mk (w7.heap.size+1) (.slice (some ⟨w7.heap.size,0,none⟩) 1 1) 14 ⟨#[]⟩ 0 [x]:=⟨_,rfl⟩
   rw[<-ha]at hA;refine ZO ?_;intro jy;rw[show vP _=_ from jy];clear ha jy gd;refine Xf ?_;intro N3 A3 R3 jd NE;have NA:=lh (show∀y∈(ATree.mk nb (.slice (some ⟨sb,0,none⟩) 1 1) 12 ⟨#[]⟩ 0 [g]).blocks,y<wf.drew.heap.size from λy hy=>(N.o.new y hy).2);have fX:=lh dA;refine s5 ?_;intro i0 hi aD bo bT;clear hK K hA bK dy eM ac dJ aK u hX lU dK fd kr ax hv fY P7 dA;refine ta ?_;intro K hK
   refine step_append_lies _ Po (.tmp 39) (.tmp 45) 40 Po B 22 i0 _ 1 8 Tryz.underlying40 hi aD bo bT rfl Pa (.slice (some ⟨sb,0,none⟩) 1 1) ([g]).length (([g]).map ATree.ptr) Po (N3.o.at'.rowOf.alloc _) ⟨dD.heap.size,0,none⟩ 1 1 [a.ptr] Po rfl (Ya (cs:=#[a.ptr]) (t:=22) (fr:=(0,0)) (heap_alloc_new dD _)) Pq Pa Pc O' Pp (dD.heap.size+1) Pg ?_;intro m cap w4 aT aC bX cg
   have m4:vC w4 nb 3 (.slice (some ⟨sb,0,none⟩) 1 1):=(aC.cell_far ⟨nb,3,none⟩ Pe (λe=>NE.o e.symm)).trans ((Zb de).trans m3);refine RF ?_;clear hK K;intro lT;have aj:=Got.push aA HP.o.le N3.o (wA:=wf.drew) NA.o A3.o jd.o R3.o ((Below.refl _ _).alloc (Nat.le_refl _) _) aC aT (bX.imp id λh=>by omega) cg;have ca:=lh aj;clear aj;refine Z0 ?_;clear aC aT bX cg;have oT:=Yc fw.o;have pJ:=lh oT.symm;have ac:=ca.o.1.at'.blkOf;simp only[ATree.b,ATree.v,ATree.kind,ATree.text,ATree.n]at ac
   have e3:(w4.setCell ⟨nb,3,none⟩ (.slice (some ⟨m,0,none⟩) (([g]).length+1) cap)).cell? ⟨nb,3,none⟩=some (.slice (some ⟨m,0,none⟩) (([g]).length+1) cap):=by unfold World.cell?;rw[ac];rfl
   have n1:(((([g]).length+1:Nat):Int)==1)=false:=Pg
   clear oT ac;go_wp2;go_ret;rw[pJ.o];refine⟨.mk nb (.slice (some ⟨m,0,none⟩) (([g]).length+1) cap) 12 ⟨#[]⟩ 0 ([g]++[a]),rfl,?_,ca.o.2.2,ca.o.2.1⟩;have h1:=ca.o.1;have h2:=N.o.tree;exact y8
  .have zy:aa CP us=false:=by simpa using hf
   have hq:=HQ.o;unfold MM at hq;rw[Y3 hf]at hq;have X:=lh hq;have HT:=xk _ rb us d CP PQ.o.rd zy;unfold CP at HT;have HT:=lh HT;clear hf zy hq;go_wp2_with fail
   refine HT.o.mono ?_;refine Zq7 ?_;intro wf kO N PQ FQ;refine NQ ?_;intro ac;have u:vC wf nb 3 (.slice (some ⟨sb,0,none⟩) 1 1):=Pd
   clear kO HT ac;have hq:=X.o;rw[Y5 (show[t0].length=1 from rfl)]at hq;obtain rfl:=Yc hq;have HF:=lh (S7 wf rb us d 3 PQ.o.rd);clear hq;go_wp2_with fail
   refine HF.o.mono ?_;exact yR
