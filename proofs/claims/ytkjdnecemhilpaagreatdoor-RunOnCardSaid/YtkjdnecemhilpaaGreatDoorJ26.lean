import Derived.Test.YtkjdnecemhilpaaGreatDoorJ25
set_option maxRecDepth 100000
set_option maxHeartbeats 20000000
set_option linter.all false
namespace Go.Proofs.YtkjdnecemhilpaaGreatDoor
open Go Go.RowKit Go.Proofs.Tryz Tryz
def Zh1{st:Bool}{T:List kB}{k:Nat}{s:kB}(h:T[k]?=some s):Vx st (T.take k) (T.drop k)=if LC st s then 5 else if st&&Lib.containsS (T.take k) s then 9 else Vx st (T.take (k+1)) (T.drop (k+1)):=by
 obtain⟨hk,he⟩:=List.getElem?_eq_some_iff.1 h;rw[Yt hk,List.take_succ_eq_append_getElem hk,he];rfl
def Zku(st:Bool)(t:kB)(ps:List kB)(bd:ATree)(K:Int):(if Vz st t ps bd≠0 then Vz st t ps bd else K) =
 if LC st t then 5 else if Vx st [] ps≠0 then Vx st [] ps else if(SP bd).any (λs=>Lib.containsS ps s)then 9 else if EP bd true then 9 else K:=by
 unfold Vz;by_cases g:LC st t=true;·simp only[if_pos g];rfl
 simp only[if_neg g];by_cases m:Vx st [] ps≠0;·simp only[if_pos m]
 simp only[if_neg m];by_cases o:(SP bd).any (λs=>Lib.containsS ps s)=true;·simp only[if_pos o];rfl
 simp only[if_neg o];by_cases p:EP bd true=true;·simp only[if_pos p];rfl
 simp only[if_neg p];rfl
def Zmx{B m:Nat}(hK:Up B m)(a:ATree)(w:kV)(st ins:Bool)(hm:a.many<=m+1)(eR:a.many<274877906944)(O:TreeAt w B a)(ps bd:ATree)(hk:a.kids=[ps,bd])(j8:∀k∈bd.kids,WA k) :
 kC 114 #[.agg #[.bool st,.bool ins],a.ptr] w λe w'=>e=.returned (vI (if Vz (st||Zj bd) a.text (ps.kids.map ATree.text) bd≠0 then Vz (st||Zj bd) a.text (ps.kids.map ATree.text) bd else qy bd.kids (st||Zj bd) true))/\kW w w':=by
 rw[Zku];obtain⟨i0,hi,aC,bj,bJ⟩:=info_parts zq;have aV:ps∈a.kids/\bd∈a.kids:=Q9
 have nK:a.many=ps.many+bd.many+1:=by
  obtain⟨b,v,k,t,n,ks⟩:=a;simp only[ATree.kids]at hk;subst hk;simp only[ATree.many,x4];omega
 obtain⟨p,cp,hv,bq,d7⟩:=O.vOf;have ae:=O.rowOf;obtain⟨g,hp⟩:∃g,p=some ⟨g,0,none⟩:=by
  rcases Z4 ae with⟨_,h2⟩|⟨g,cap,F,_⟩;·rw[hk]at h2;simp at h2
  .rw[hv]at F;simp only[Value.slice.injEq]at F;exact⟨g,F.1⟩
 subst hp;have c3:w.cell? ⟨a.b,3,none⟩=some (.slice (some ⟨g,0,none⟩) 2 cp):=by rw[show(2:Nat)=a.kids.length by rw[hk];rfl,<-hv];exact O.c3
 have cx:=Zq ae (g:=g) QB (i:=0) (x:=ps.ptr) RJ;have cy:=Zq ae (g:=g) QB (i:=1) (x:=bd.ptr) RJ;have dI:2<=cp:=by rw[hk]at bq;exact bq
 unfold maxLen at d7;have KJ:=(Y9 ae g QB).2;have Bo:=O.kid aV.1;have KL:=O.kid aV.2;obtain⟨p2,jW,ym,GM,fR⟩:=Bo.vOf;have p3:w.cell? ⟨ps.b,3,none⟩=some (.slice p2 ps.kids.length jW):=by rw[<-ym];exact Bo.c3
 have c1:=O.c1;have aY:=Zao ps;have AE:=Zao bd;have qi:ps.kids.length<=9223372036854775807:=Rk
 have rB:ps.kids.length<274877906944:=Qe
 have mD:bd.kids.length<274877906944:=Qe
 have Dm:=lh ym;obtain⟨tx,be⟩:=zX a.text
 rw[<-be]at c1 ⊢;have ip:=lh (λwr (h:TreeAt wr B bd)=>Z4e wr B bd h);obtain⟨ib,ej⟩:=zX (Zj bd)
 rw[<-ej]at ip ⊢;obtain⟨sb,aM⟩:=zX ((st||ib))
 rw[<-aM];clear ej;obtain⟨T,qp⟩:=zX (ps.kids.map ATree.text)
 rw[<-qp];obtain⟨P,hP⟩:=zX (bd.kids.filter vV)
 have AD:SP bd=P.map ATree.text:=by rw[hP];rfl
 rw[AD];have KM:∀x,x∈P->x∈bd.kids:=λx hx=>by rw[hP]at hx;exact(List.mem_filter.1 hx).1
 have vX:P.length<=bd.kids.length:=RW
 have hL:=λW (h:TreeAt W B bd)=>YR W B bd h Qe;simp only[<-hP]at hL;obtain⟨HL,Oa,rO,kq,gy⟩:=gq hL KM (λW s=>Z6w W sb true s) (λW (h:TreeAt W B bd)=>Zaj W B bd sb true true h Qe) (λW (h:TreeAt W B bd)=>hK bd W sb true Qe j8 Qe h);obtain⟨bf,pi⟩:=zX (LC sb tx)
 obtain⟨RP,GN⟩:=zX (Vx sb [] T)
 obtain⟨LB,pc⟩:=zX ((P.map ATree.text).any (λs=>Lib.containsS T s))
 obtain⟨SB,sV⟩:=zX (EP bd true)
 obtain⟨RK,yw⟩:=zX (qy bd.kids sb true)
 rw[<-pi,<-GN,<-pc,<-sV,<-yw];rw[<-sV]at kq;rw[<-yw]at gy;obtain⟨code,aD⟩:∃c:Int,c=if bf then 5 else if RP≠0 then RP else if LB then 9 else if SB then 9 else RK:=⟨_,rfl⟩
 rw[<-aD];obtain⟨aI,KN,KO,rx,i8⟩:=gq aD pi GN pc qp;have ao:∀W,kW w W->vC W a.b 3 (.slice (some ⟨g,0,none⟩) 2 cp)/\W.cell? ⟨g,0,none⟩=some ps.ptr/\W.cell? ⟨g,1,none⟩=some bd.ptr/\vC W ps.b 3 (.slice p2 ps.kids.length jW)/\vC W a.b 1 (.string tx)/\TreeAt W B ps/\TreeAt W B bd:=λW h=>
  ⟨(Yb (h.block a.b O.lt)).trans c3,(Yb (h.block g KJ)).trans cx,(Yb (h.block g KJ)).trans cy,(Yb (h.block ps.b Bo.lt)).trans p3,(Yb (h.block a.b O.lt)).trans c1,Bo.bel h,KL.bel h⟩
 have ei:kW w (w.alloc (.cells #[.bool st,.bool ins] 122)):=(Y2 _ _).alloc (Y0 _) _;have ig:kW w (w.alloc (.cells #[.bool sb,.bool true] 122)):=(Y2 _ _).alloc (Y0 _) _;obtain⟨k3,_,U,_⟩:=ao _ ei;have cP:=lh ao;have t8:=lh ei;unfold ATree.ptr at gy kq HL cP U ip ⊢;obtain⟨q,hq⟩:=zX ps.kids.length
 rw[<-hq]at cP qi GM rB;have HQ:=lh hq;clear hK O hm eR hk j8 aV nK hv bq ae c3 cx cy Bo KL ym p3 c1 aY AE be qp hP AD KM hL pi GN pc sV yw aD ao ei hq;cases st;rw[Bool.false_or]at aM;subst aM;go_enter func114,ntmps114
 go_wp2_with fail
 refine(ip.o _ (cP.o _ t8.o).2.2.2.2.2.2).mono ?_;rintro e w'⟨rfl,j6⟩;rw[j6];clear j6 w' ip;go_wp2_with fail
 rotate_left
 rw[Bool.true_or]at aM;have cD:=lh aM;clear aM ip;go_enter func114,ntmps114
 go_wp2_with fail
 rw[show(w.alloc (.cells #[.bool true,.bool true] 122))=w.alloc (.cells #[.bool sb,.bool true] 122)from by rw[cD.o]];clear cD
 all_goals
  have d0:(w.alloc (.cells #[.bool sb,.bool true] 122)).cell? ⟨w.heap.size,0,none⟩=some (.bool sb):=Qm
  have d1:(w.alloc (.cells #[.bool sb,.bool true] 122)).cell? ⟨w.heap.size,1,none⟩=some (.bool true):=Qm
  have ba:(w.alloc (.cells #[.bool sb,.bool true] 122)).heap.size=w.heap.size+1:=Qm
  obtain⟨w1,dU⟩:=zX (w.alloc (.cells #[.bool sb,.bool true] 122))
  rw[<-dU]at d0 d1 ba ig ⊢;obtain⟨_,_,_,_,c1,_,_⟩:=cP.o _ ig;have uz:∀W,kW w1 W->vC W w.heap.size 0 (.bool sb)/\vC W w.heap.size 1 (.bool true)/\kW w W/\w1.heap.size<=W.heap.size:=λW h=>
   ⟨(Yb (h.block w.heap.size Qe)).trans d0,(Yb (h.block w.heap.size Qe)).trans d1,ig.trans (h.mono ig.size),h.size⟩
  obtain⟨H1,Do,od⟩:=ds uz ig dU;clear uz ig dU k3 U;refine Z7 [0,2,4,6,8] [5] (λW=>vC W w.heap.size 0 (.bool sb)/\vC W w.heap.size 1 (.bool true)/\vC W a.b 1 (.string tx)) ⟨d0,d1,c1⟩ λ_=>?_;refine dS ?_
  iterate 5
   refine dq ?_
  refine Z1 ?_;go_wp2_with fail
  refine(rO.o w1.drew tx).mono ?_;rintro e w2⟨rfl,aw⟩;rw[<-KN.o];have aP:Hid (kW w1 w2):=lh ((Y2 w1.heap.size w1).drew.trans aw);clear aw KN d0 d1 c1;obtain⟨x0,x1,wO,dp⟩:=H1.o _ aP.o;obtain⟨k3,kx,U,k4,_,_,_⟩:=cP.o _ wO;have sU:=lh wO;clear wO;cases bf;rotate_left
  .go_wp2;go_ret;exact⟨by rw[aI.o];rfl,sU.o⟩
  go_wp2_with fail
  go_loopw [5,40] (λv i wr=>∃(k:Nat) (v':Value),v'=v/\k<=q/\i=(vI k)/\Hid (Zx wr w1.heap.size v' (T.take k))/\Hid (kW w1 wr)/\Hid (Vx sb (T.take k) (T.drop k)=RP)) (λ_ i _=>q-(intOf i).toNat)
  case atStart=>exact⟨0,_,rfl,Yh _,rfl,lh (Zx.nil _ _),aP,lh KO.o.symm⟩
  case round=>
   obtain⟨k,v,rfl,hk,rfl,I,J,HR⟩:=hrel;clear aP sU;obtain⟨y0,y1,X,yv⟩:=H1.o _ J.o;obtain⟨k3,kx,U,k4,_,m',lP⟩:=cP.o _ X;have fc:=lh X;by_cases bY:k<q
   .obtain⟨x,hx⟩:∃x,ps.kids[k]? =some x:=⟨_,Y6 Ra⟩
    have ae:=m'.rowOf;rcases Z4 ae with⟨_,h2⟩|⟨g0,gB,gr,_⟩;·rw[<-HQ.o]at h2;omega
    have hp:p2=some ⟨g0,0,none⟩:=by
     have:=Dm.o.symm.trans gr;simp only[Value.slice.injEq]at this;exact this.1
    subst hp;refine SS ?_;intro cx;unfold ATree.ptr at cx;have eA:=m'.kid (Yd hx);have c1:=eA.c1;have ju:=eA.lt;have se:T[k]?=some x.text:=by rw[i8.o,Yg,hx];rfl
    have aN:=Zh1 (st:=sb) se;rw[HR.o]at aN;have cG:(T.take k).length=k:=by rw[List.length_take,i8.o,Ym,<-HQ.o];omega
    have dy:T.take k++[x.text]=T.take (k+1):=by
     exact Zyq
    obtain⟨Y,ij⟩:=zX x.text
    rw[<-ij]at c1 aN dy;obtain⟨l,hl⟩:=zX (T.take k)
    rw[<-hl]at aN cG dy I;obtain⟨bp,GO⟩:=zX (LC sb Y)
    rw[<-GO]at aN;obtain⟨cb,mi⟩:=zX (Lib.containsS l Y)
    rw[<-mi]at aN;obtain⟨pv,nv,cv,rfl⟩:=I.o.slice;obtain⟨pQ,tG,fh,yN⟩:=gp mi GO aN dy;clear ae gr hx eA se aN dy ij hl GO mi m' lP X k3 kx U k4;go_wp2_with fail
    refine Z7 [0,2,4,6,8] [5,6] (λW=>vC W w.heap.size 0 (.bool sb)/\vC W w.heap.size 1 (.bool true)/\vC W x.b 1 (.string Y)) ⟨y0,y1,c1⟩ λ_=>?_;refine dS ?_
    iterate 5
     refine dq ?_
    refine Z1 ?_;go_wp2_with fail
    refine(rO.o wr.drew Y).mono ?_;rintro e Z⟨rfl,bo⟩;rw[<-tG.o];have fq:kW wr Z:=(Y2 wr.heap.size wr).drew.trans bo;have HB3:=lh (J.o.trans (fq.mono yv));have qS:=lh (I.o.bel fq);have De:vC Z x.b 1 (.string Y):=(Yb (fq.block x.b ju)).trans c1;obtain⟨z0,z1,Bq,DU⟩:=H1.o _ HB3.o;have Br:=lh Bq;have Ob:x.b<Z.heap.size:=Y7 ju fq.size;clear bo fq tG y0 y1 c1 I J HR fc Bq;cases bp;rotate_left
    .go_wp2;go_ret;refine⟨?_,Br.o⟩;have F:=fh.o;simp only[if_true]at F;rw[aI.o,F];rfl
    cases sb
    .have rS:=qS;unfold Zx at rS;clear pQ
     go_wp2_with (at_builtin;go_must (refine wpList_append_lies _ rfl (.tmp 62) (.tmp 67) 37 rfl w1.heap.size 9 i0 (.string ByteArray.empty) 1 16 underlying37 hi aC bj bJ rfl Qg (.slice pv nv cv) l.length (l.map Value.string) rfl (rS.o.alloc _) ⟨Z.heap.size,0,none⟩ 1 1 [.string Y] rfl rfl (λj u hu=>cell_one_new Z _ _ j u hu) Qp Qn Qj Qn Qn (Z.heap.size+1) Qm ?_);intro g cap w4 aK av cf fI;have HG:=lh av;have HW:=lh aK;clear av aK cf fI)
     go_roundw
     case rel=>
      refine⟨k+1,_,rfl,by omega,by go_num,lh ?_,lh ?_,lh ?_⟩;·exact Zz9
      .exact Zyf
      .have F:=fh.o;simp only[Bool.false_eq_true,if_false,Bool.false_and]at F;exact F.symm
     case measure=>simp[intOf];omega
    .have sL:=lh (XU qS.o Y);rw[<-pQ.o]at sL;clear pQ;have rS:=qS;unfold Zx at rS;go_wp2_with fail
     refine sL.o.mono ?_;rintro e w'⟨rfl,j6⟩;rw[j6];clear j6 w' sL;cases cb;rotate_left
     .go_wp2;go_ret;refine⟨?_,Br.o⟩;have F:=fh.o;simp only[Bool.false_eq_true,if_false,Bool.and_self,if_true]at F;rw[aI.o,F];rfl
     go_wp2_with (at_builtin;go_must (refine wpList_append_lies _ rfl (.tmp 62) (.tmp 67) 37 rfl w1.heap.size 9 i0 (.string ByteArray.empty) 1 16 underlying37 hi aC bj bJ rfl Qg (.slice pv nv cv) l.length (l.map Value.string) rfl (rS.o.alloc _) ⟨Z.heap.size,0,none⟩ 1 1 [.string Y] rfl rfl (λj u hu=>cell_one_new Z _ _ j u hu) Qp Qn Qj Qn Qn (Z.heap.size+1) Qm ?_);intro g cap w4 aK av cf fI;have HG:=lh av;have HW:=lh aK;clear av aK cf fI)
     go_roundw
     case rel=>
      refine⟨k+1,_,rfl,by omega,by go_num,lh ?_,lh ?_,lh ?_⟩;·exact Zz9
      .exact Zyf
      .have F:=fh.o;simp only[Bool.false_eq_true,if_false,Bool.and_false]at F;exact F.symm
     case measure=>simp[intOf];omega
   .have aT:k=q:=by omega
    subst aT;have cG:T.length=k:=by rw[i8.o,Ym,<-HQ.o]
    have be:=I.o;rw[Ye Qe]at be;have Oc:RP=0:=by
     have:=HR.o;rw[Ye Qe,List.drop_of_length_le Qe]at this;rw[<-this];rfl
    subst Oc;have Ck:=lh be;obtain⟨pv,nv,cv,rfl⟩:=be.slice;have Dp:=lh lP;clear be X m' lP I HR cG k4 kx KO;go_wp2_with fail
    refine(HL.o wr Dp.o).mono ?_;rintro e w5⟨v5,rfl,hZ,gI⟩;obtain⟨p5,rg,rfl,jo,mU,gD⟩:=hZ.slice;obtain⟨gZ,KP,N5,iu⟩:=gp (J.o.trans (gI.mono yv)) (Ck.o.bel gI) hZ gD;obtain⟨zf,AF⟩:=zX wr.heap.size
    rw[<-AF]at N5;obtain⟨m2,fd⟩:=zX P.length
    have EA:m2<=9223372036854775807:=by unfold maxLen at mU;omega
    rw[<-fd]at jo N5 vX ⊢;have bX:=lh fd;clear hZ gI gD AF fd Ck J fc;go_wp2_with fail
    go_loopw [78] (λi wr=>∃(k:Nat),k<=m2/\i=(vI k)/\Hid (Zx wr w1.heap.size (.slice pv nv cv) T)/\Hid (lL wr zf (.slice p5 m2 rg) P)/\Hid (kW w1 wr)/\Hid (∀x∈P.take k,Lib.containsS T x.text=false)) (λi _=>m2-(intOf i).toNat)
    case atStart=>exact⟨0,Yh _,rfl,KP,N5,gZ,lh Qm⟩
    case round=>
     obtain⟨k,hk,rfl,I,NO,J,HF⟩:=hrel;clear KP N5 gZ;obtain⟨y0,y1,X,yv⟩:=H1.o _ J.o;obtain⟨k3,kx,U,k4,_,m',lP⟩:=cP.o _ X;have fc:=lh X;by_cases bY:k<m2
     .obtain⟨x,hx⟩:∃x,P[k]? =some x:=⟨_,Y6 Se⟩
      obtain⟨g0,hp⟩:=iu.o k x hx;subst hp;have cx:=NO.o.cell rfl hx;have eA:=lP.kid (Oa.o x (Yd hx));have c1:=eA.c1;have sL:=lh (XU I.o x.text);obtain⟨cb,mi⟩:=zX (Lib.containsS T x.text)
      rw[<-mi]at sL;have pQ:=lh mi;have HX:=lh hx;obtain⟨Y,ij⟩:=zX x.text
      rw[<-ij]at c1 sL;clear eA hx mi ij m' lP X k3 kx U k4 y0 y1;go_wp2_with fail
      refine sL.o.mono ?_;rintro e w'⟨rfl,j6⟩;rw[j6];clear j6 w' sL;cases cb
      .go_wp2;go_roundw
       case rel=>
        refine⟨k+1,by omega,by go_num,I,NO,J,lh ?_⟩;intro y hy;obtain⟨aY,rh⟩:=List.getElem?_eq_some_iff.1 HX.o;rw[List.take_succ_eq_append_getElem aY,List.mem_append]at hy;rcases hy with hy|hy;·exact HF.o y hy
        .simp only[List.mem_singleton]at hy;rw[hy,rh];exact pQ.o.symm
       case measure=>simp[intOf];omega
      .go_wp2;go_ret;refine⟨?_,fc.o⟩;have F:LB=true:=by
        rw[rx.o,List.any_eq_true];exact⟨x.text,List.mem_map.2 ⟨x,Yd HX.o,rfl⟩,pQ.o.symm⟩
       rw[aI.o,F];rfl
     .have aT:k=m2:=by omega
      subst aT;have F:LB=false:=by
       rw[rx.o,List.any_eq_false];intro s hs;obtain⟨y,hy,rfl⟩:=List.mem_map.1 hs;have:=HF.o y (by rw[Ye (by rw[<-bX.o];exact Y0 _)];exact hy);simp[this]
      subst F;have Dp:=lh lP;clear m' lP X k4 kx HF I NO rx;go_wp2_with fail
      refine Z7 [0,2,4,6,8,10,12] [7,8] (λW=>vC W w.heap.size 0 (.bool sb)/\vC W w.heap.size 1 (.bool true)/\vC W a.b 3 (.slice (some ⟨g,0,none⟩) 2 cp)/\vC W g 1 (vP bd.b)) ⟨y0,y1,k3,U⟩ λ_=>?_;refine dS ?_
      iterate 7
       refine dq ?_
      refine Z1 ?_;go_wp2_with fail
      refine(kq.o wr.drew (Dp.o.keep λk _ _=>rfl)).mono ?_;rintro e w7⟨rfl,jp⟩;have j7:kW wr w7:=(Y2 wr.heap.size wr).drew.trans jp;have yd:=lh (J.o.trans (j7.mono yv));obtain⟨z0,z1,wP,Od⟩:=H1.o _ yd.o;obtain⟨l3,_,ly,_,_,_,Bu⟩:=cP.o _ wP;have wQ:=lh wP;have GP:=lh Bu;clear jp j7 wP Bu y0 y1 k3 U Dp J fc;cases SB;rotate_left
      .simp only[if_true];go_wp2;go_ret;exact⟨by rw[aI.o];rfl,wQ.o⟩
      simp only[Bool.false_eq_true,if_false];go_wp2_with fail
      refine Z7 [0,2,4,6,8,10,12] [7,8] (λW=>vC W w.heap.size 0 (.bool sb)/\vC W w.heap.size 1 (.bool true)/\vC W a.b 3 (.slice (some ⟨g,0,none⟩) 2 cp)/\vC W g 1 (vP bd.b)) ⟨z0,z1,l3,ly⟩ λ_=>?_;refine dS ?_
      iterate 7
       refine dq ?_
      refine Z1 ?_;go_wp2_with fail
      refine(gy.o w7.drew (GP.o.keep λk _ _=>rfl)).mono ?_;rintro e w8⟨rfl,j7⟩;have mV:Hid (kW w w8):=lh (wQ.o.drew.trans (j7.mono wQ.o.size));clear j7;go_wp2;go_ret;exact⟨by rw[aI.o];rfl,mV.o⟩
structure EIn(B m:Nat)(a:ATree)(w:kV):Prop where
 m:a.many<=m+1
 wa:WA a
 mx:a.many<274877906944
 t:TreeAt w B a
def Vt(B:Nat)(a:ATree)(w:kV)(st ins:Bool):Prop:=
 kC 89 #[.agg #[.bool st,.bool ins],a.ptr] w λe w'=>e=.returned (vI (qL a st ins))/\kW w w'
def EW(B:Nat)(a:ATree)(st ins:Bool)(g:Int)(tx:kB)(w W:kV):Prop:=
 vC W w.heap.size 0 (.bool st)/\vC W w.heap.size 1 (.bool ins)/\vC W (w.heap.size+1) 0 (vP a.b)/\
 vC W a.b 0 (vI g)/\vC W a.b 1 (.string tx)/\kW w W/\TreeAt W B a
def Zoq(w:kV)(B:Nat)(a:ATree)(st ins:Bool)(g:TreeAt w B a):∀W,Below ((w.alloc (.cells #[.bool st,.bool ins] 122)).alloc (.cells #[vP a.b] 22)).heap.size ((w.alloc (.cells #[.bool st,.bool ins] 122)).alloc (.cells #[vP a.b] 22)) W->EW B a st ins a.kind a.text w W:=by
 have m:kW w (w.alloc (.cells #[.bool st,.bool ins] 122)):=(Y2 _ _).alloc (Y0 _) _;have p:kW w ((w.alloc (.cells #[.bool st,.bool ins] 122)).alloc (.cells #[vP a.b] 22)):=m.alloc m.size _;have u:w.heap.size<(w.alloc (.cells #[.bool st,.bool ins] 122)).heap.size:=Qm
 have F:((w.alloc (.cells #[.bool st,.bool ins] 122)).alloc (.cells #[vP a.b] 22)).heap.size=w.heap.size+2:=Qm
 have y:((w.alloc (.cells #[.bool st,.bool ins] 122)).alloc (.cells #[vP a.b] 22)).cell? ⟨w.heap.size,0,none⟩=some (.bool st):=(Zb (by exact u)).trans Qm;have b1:((w.alloc (.cells #[.bool st,.bool ins] 122)).alloc (.cells #[vP a.b] 22)).cell? ⟨w.heap.size,1,none⟩=some (.bool ins):=(Zb (by exact u)).trans Qm;have b3:((w.alloc (.cells #[.bool st,.bool ins] 122)).alloc (.cells #[vP a.b] 22)).cell? ⟨w.heap.size+1,0,none⟩=some (vP a.b):=Qm
 intro W h;have o:=p.trans (h.mono p.size);exact⟨(Yb (h.block w.heap.size Qe)).trans y,(Yb (h.block w.heap.size Qe)).trans b1,(Yb (h.block (w.heap.size+1) Qe)).trans b3,(Yb (o.block a.b g.lt)).trans g.c0,(Yb (o.block a.b g.lt)).trans g.c1,o,g.bel o⟩
def EIn.first{B m:Nat}{a x:ATree}{r:List ATree}{w:kV}(h:EIn B m a w)(hk:a.kids=x::r) :
 ∃ g o, r.length + 1 ≤ o ∧ o ≤ 9223372036854775807 ∧ ∀ W, kW w W → vC W a.b 3 (.slice (some ⟨g, 0, none⟩) (r.length + 1) o) ∧ vC W g 0 (vP x.b) ∧ TreeAt W B x ∧
   ∀j y,r[j]?=some y->W.cell? ⟨g,1+j,none⟩=some y.ptr/\TreeAt W B y:=by
 obtain⟨p,o,hv,X,I⟩:=h.t.vOf;have hl:a.kids.length=r.length+1:=by rw[hk,List.length_cons]
 obtain⟨g,hp⟩:∃g,p=some ⟨g,0,none⟩:=by
  rcases Z4 h.t.rowOf with⟨_,J⟩|⟨g,cap,F,_⟩;·rw[hk]at J;simp at J
  .rw[hv]at F;simp only[Value.slice.injEq]at F;exact⟨g,F.1⟩
 subst hp;unfold maxLen at I;refine⟨g,o,by omega,I,λW q=>?_⟩;have u:=h.t.bel q;have O:=u.rowOf;refine⟨by have:=u.c3;rw[hv,hl]at this;exact this,Zq O (g:=g) QB (i:=0) (x:=x.ptr) RJ,u.kid Q9,λj y U=>⟨?_,u.kid (by rw[hk];exact List.mem_cons_of_mem _ (Yd U))⟩⟩;rw[Nat.add_comm];exact Zq O (g:=g) QB (i:=j+1) (x:=y.ptr) (by rw[hk,List.map_cons,List.getElem?_cons_succ,Yg,U];rfl)
def Zmr{B m:Nat}(hK:Up B m)(a:ATree)(w:kV)(st ins:Bool)(h:EIn B m a w)(p:a.kind=2\/a.kind=3\/a.kind=4):Vt B a w st ins:=by
 have u:qL a st ins=if LC st a.text then 5 else qy a.kids st ins:=by
  obtain⟨b,v,k,t,n,O⟩:=a;simp only[ATree.kind]at p;rw[qL.eq_def];have e:k≠13:=Qe
  have I:k=2\/k=3\/k=4\/k=13:=Qe
  simp only[];rw[Y5 I];simp only[e,false_and,if_false];rfl
 refine FW ?_;intro iT gy code aD;rw[<-aD];rw[u]at aD;refine WM ?_;intro aI ao;obtain⟨U,y⟩:=zX a.kind
 rw[<-y]at ao p;clear y;obtain⟨tx,g⟩:=zX a.text
 rw[<-g]at ao;try rw[<-g]at aI
 have X:=lh g;unfold EW at ao;refine Ww ?_;intro kb js ke ka c1' ei;refine EI ?_;intro w2 cj;rw[<-cj]at ao;refine Ev ?_;intro q0 q1 q3 s0 s1 cO eE cP fA fc gz;clear hK h u aD g ei cj ao cO eE;unfold ATree.ptr at gy ⊢;have rO:=lh (Z6w w2.drew st ins tx);obtain⟨J,F⟩:=zX (LC st tx)
 rw[<-F]at rO aI;clear F;rcases p with rfl|rfl|rfl
 all_goals
  go_enter func89,ntmps89
  go_wp2_with fail
  rw[<-fA.o];clear ka c1' kb js ke;refine Z7 [0,2,4,6,8] [5] (λW=>vC W w.heap.size 0 (.bool st)/\vC W w.heap.size 1 (.bool ins)/\vC W (w.heap.size+1) 0 (vP a.b)/\vC W a.b 1 (.string tx)) ⟨q0,q1,q3,s1⟩ λ_=>?_;refine dS ?_
  iterate 5
   refine dq ?_
  refine Z1 ?_;go_wp2_with fail
  refine Zuz ?_;clear q0 q1 q3 s0 s1;intro w3 r0 r1 r3 u0 u1 ep gZ mu;cases J;rotate_left
  .go_wp2;exact Zly
  go_wp2_with fail
  refine Zo7 ?_;intro w9 ew ea;clear ew;go_wp2;go_ret;exact⟨by rw[aI.o];rfl,ea.o⟩
def Zh4{B m:Nat}(hK:Up B m)(a:ATree)(w:kV)(st ins:Bool)(h:EIn B m a w){x:ATree}{r:List ATree}(p:a.kind=13)(hk:a.kids=x::r):Vt B a w st ins:=by
 have Z:qL a st ins=if LC st a.text then 5 else if(JK false x).any (λs=>Zh s a.text)then 9 else qy a.kids st ins:=by
  obtain⟨b,v,k,t,n,ks⟩:=a;simp only[ATree.kind,ATree.kids]at p hk;subst p;subst hk;rw[qL.eq_def];simp only[true_and];rfl
 refine FW ?_;intro iT gy code aD;rw[<-aD];rw[Z]at aD;refine WM ?_;intro aI ao;rw[p]at ao;clear p;have dY:x.many<274877906944:=by have:=Z78 (a:=a) (k:=x) Q9;have:=h.mx;omega
 refine Zpc ?_;intro g cp bq d7 kQ nw q hq;rw[<-hq]at bq nw kQ;refine Zov ?_;intro HQ yE tx be;rw[<-be]at ao;try rw[<-be]at aI
 have eL:=lh be;unfold EW at ao;refine Ww ?_;intro kb js ke ka c1' ei;obtain⟨uA,uB,_,_⟩:=kQ _ ei;refine EI ?_;intro w2 cj;rw[<-cj]at ao;refine Ev ?_;intro q0 q1 q3 s0 s1 cO eE cP fA fc gz;clear hK h Z aD be ei cj ao cO eE hk hq kQ;unfold ATree.ptr at gy ⊢;have hn0:0<q+1:=Qe
 have iW:(0:Int)<((q+1:Nat):Int):=Qe
 have rO:=lh (Z6w w2.drew st ins tx);obtain⟨bf,pi⟩:=zX (LC st tx)
 rw[<-pi]at rO aI;clear pi;go_enter func89,ntmps89
 go_wp2_with fail
 rw[<-fA.o];clear ka c1' kb js ke uA uB;refine Z7 [0,2,4,6,8] [5] (λW=>vC W w.heap.size 0 (.bool st)/\vC W w.heap.size 1 (.bool ins)/\vC W (w.heap.size+1) 0 (vP a.b)/\vC W a.b 1 (.string tx)) ⟨q0,q1,q3,s1⟩ λ_=>?_;refine dS ?_
 iterate 5
  refine dq ?_
 refine Z1 ?_;go_wp2_with fail
 refine Zuz ?_;clear q0 q1 q3 s0 s1;intro w3 r0 r1 r3 u0 u1 ep gZ mu;cases bf;rotate_left
 .go_wp2;exact Zly
 obtain⟨l3,l0,eA,_⟩:=nw.o w3 gZ.o;have F:=lh (Z9o false w3 B x eA dY);obtain⟨nm,hnm⟩:=zX (JK false x)
 rw[<-hnm]at F aI;unfold ATree.ptr at F;clear eA hnm;go_wp2_with fail
 refine F.o.mono ?_;rintro e u⟨v4,rfl,I,jV⟩;obtain⟨pv,CV,rfl,CW,FH,iL⟩:=I.form2;have J:kW w2 u:=ep.o.trans (jV.mono ep.o.size);obtain⟨o0,o1,o3,_,_,O,Au⟩:=cP.o u J;have sH:w.heap.size+1<u.heap.size:=by
  have p:=J.size;have h2:w2.heap.size=w.heap.size+2:=by rw[fA.o];simp
  omega
 have kX:=Zx7 ⟨w.heap.size+1,0,none⟩ Value.string (λs=>Zh s tx) (Below u.heap.size u) pv CV nm u (by unfold maxLen at FH;omega) CW
  (fun i y hy => by
   obtain⟨g,U⟩:=iL i y hy;refine⟨g,0,U,λw1 h=>?_⟩;rw[Nat.zero_add];exact(Yb (h.block g (Y9 I g (by rw[U];rfl)).2)).trans (I.cells (by rw[U];rfl) hy))
  (fun y hy w1 h => by
   rw[eL.o];exact(Zn5 w1 B (w.heap.size+1) a y (Au.bel h) ((Yb (h.block _ sH)).trans o3)).mono λe w2 ⟨p,h2⟩=>⟨p,by rw[h2];exact h⟩)
  (Y2 _ _)
 have X:=lh kX;have yd:=lh J;obtain⟨ag,AH⟩:=zX (nm.any (λs=>Zh s tx))
 rw[<-AH]at X aI;clear kX AH I jV J O Au r0 r1 r3 l3 l0 u0 u1 iL F;go_wp2_with fail
 refine X.o.mono ?_;rintro e w5⟨rfl,ew⟩;obtain⟨o0,o1,o3,_,_,O,KQ⟩:=cP.o w5 (yd.o.trans (ew.mono yd.o.size));have Y:=lh O;have vW:=lh KQ;clear ew O KQ X;cases ag;rotate_left
 .go_wp2;go_ret;exact⟨by rw[aI.o];rfl,Y.o⟩
 go_wp2_with fail
 refine(gy.o w5 vW.o).mono ?_;rintro e w9⟨rfl,ew⟩;have ea:=lh ((Y.o).trans (ew.mono (Y.o).size));exact TR
def Zje{B m:Nat}(hK:Up B m)(a:ATree)(w:kV)(st ins:Bool)(h:EIn B m a w){ps bd:ATree}(g:a.kind=5\/a.kind=37)(hk:a.kids=[ps,bd]):Vt B a w st ins:=by
 have p:qL a st ins=if Vz (st||Zj bd) a.text (ps.kids.map ATree.text) bd≠0 then Vz (st||Zj bd) a.text (ps.kids.map ATree.text) bd else qy bd.kids (st||Zj bd) true:=by
  obtain⟨b,v,k,t,n,X⟩:=a;simp only[ATree.kind,ATree.kids]at g hk;subst hk;obtain⟨b2,v2,Y,t2,Z,vD⟩:=bd;rw[qL.eq_def];have e:¬(k=2\/k=3\/k=4\/k=13):=Qe
  simp only[e,g,if_false,if_true];rfl
 refine FW ?_;intro iT gy code aD;rw[<-aD];rw[p]at aD;refine WM ?_;intro aI ao;have hf:=λW (t:TreeAt W B a)=>Zmx hK a W st ins h.m h.mx t ps bd hk (λk J=>(h.wa.kid (show bd∈a.kids by rw[hk];simp)).kid J);rw[<-aD]at hf;have u:=lh hf;clear hf hk;obtain⟨kd,y⟩:=zX a.kind
 rw[<-y]at ao g;clear y;obtain⟨tx,o⟩:=zX a.text
 rw[<-o]at ao;try rw[<-o]at aI
 have eL:=lh o;unfold EW at ao;refine Ww ?_;intro kb js ke ka c1' ei;refine EI ?_;intro w2 cj;rw[<-cj]at ao;refine Ev ?_;intro q0 q1 q3 s0 s1 cO eE cP fA fc gz;clear hK h p aD o ei cj ao cO eE;unfold ATree.ptr at gy ⊢;unfold ATree.ptr at u;rcases g with rfl|rfl
 all_goals
  go_enter func89,ntmps89
  go_wp2_with fail
  rw[<-fA.o];clear ka c1' kb js ke;refine(u.o w2 gz.o).mono ?_;rintro e O⟨rfl,F⟩;obtain⟨_,_,_,_,_,I,_⟩:=cP.o O F;have U:=lh I;clear F I q0 q1 q3 s0 s1;go_wp2;go_ret;exact⟨rfl,U.o⟩
def Zgl{B m:Nat}(hK:Up B m)(a:ATree)(w:kV)(st ins:Bool)(h:EIn B m a w){x:ATree}{r:List ATree}(o:a.kind=7\/a.kind=8\/a.kind=9)(hk:a.kids=x::r)(hr:1<=r.length):Vt B a w st ins:=by
 have J:qL a st ins=if(a.kind==9&&st)||r.any (λx=>!T5 x)then 1 else qy a.kids st ins:=by
  obtain⟨b,v,k,t,n,ks⟩:=a;simp only[ATree.kind]at o;simp only[ATree.kids]at hk;subst hk;rw[qL.eq_def];have Z:¬(k=2\/k=3\/k=4\/k=13):=Qe
  have e2:¬(k=5\/k=37):=Qe
  have e3:k≠6:=Qe
  simp only[Z,e2,e3,o,if_false,if_true];rfl
 refine FW ?_;intro iT gy code aD;rw[<-aD];rw[J]at aD;refine WM ?_;intro aI ao;obtain⟨kd,O⟩:=zX a.kind
 rw[<-O]at ao o aI;clear O;have fY:=lh hr;clear hr;refine Zpc ?_;intro g cp bq d7 kQ nw q hq;rw[<-hq]at bq nw kQ;refine Zov ?_;intro HQ yE tx be;rw[<-be]at ao;try rw[<-be]at aI
 have eL:=lh be;unfold EW at ao;refine Ww ?_;intro kb js ke ka c1' ei;obtain⟨uA,uB,_,_⟩:=kQ _ ei;refine EI ?_;intro w2 cj;rw[<-cj]at ao;refine Ev ?_;intro q0 q1 q3 s0 s1 cO eE cP fA fc gz;clear hK h J aD be ei cj ao cO eE hk hq kQ;unfold ATree.ptr at gy ⊢;obtain⟨RA,F⟩:=zX (r.any (λx=>!T5 x))
 rw[<-F]at aI;have Bv:=lh F;clear F;rcases o with rfl|rfl|rfl;rotate_left
 rotate_left
 cases st;rotate_left
 .exact Yy
 all_goals
  have hn0:0<q+1:=Qe
  have cF:1<=q+1:=Qe
  have GS:2<=cp:=by have:=fY.o;rw[<-HQ.o]at this;omega
  have iW:(1:Int)<=((q+1:Nat):Int):=Qe
  go_enter func89,ntmps89
  go_wp2_with fail
  rw[<-fA.o];clear ka c1' kb js ke uA uB;obtain⟨l3,l0,_,_⟩:=nw.o w2 fc.o
  have I:=Zw1 ATree.ptr (λx=>!T5 x) (Below w2.heap.size w2) (some ⟨g,1,none⟩) (cp-1) r w2 (by rw[<-HQ.o];omega) (by rw[<-HQ.o];omega)
   (λi y hy=>⟨g,1,rfl,λw1 h=>((nw.o w1 (fc.o.trans (h.mono fc.o.size))).2.2.2 i y hy).1⟩)
   (fun u hu w1 h => by
    obtain⟨i,hi⟩:=List.getElem?_of_mem hu;exact(Znl w1 B u ((nw.o w1 (fc.o.trans (h.mono fc.o.size))).2.2.2 i u hi).2).mono λe w2 ⟨o,h2⟩=>⟨o,by rw[h2];exact h⟩)
   (Y2 _ _)
  rw[<-HQ.o,<-Bv.o]at I;have U:=lh I;clear I l3 l0;refine U.o.mono ?_;rintro e w3⟨rfl,p⟩;have bo:=p;obtain⟨r0,r1,r3,u0,u1,X,Y⟩:=cP.o w3 p;obtain⟨ep,gZ,mu⟩:=ds p X Y;clear bo p X Y q0 q1 q3 s0 s1;clear U;cases RA;rotate_left
  .go_wp2;exact Zly
  go_wp2_with fail
  refine Zo7 ?_;intro w9 ew ea;clear ew;go_wp2;go_ret;exact⟨by rw[aI.o];rfl,ea.o⟩
def Zf7{B m:Nat}(hK:Up B m)(a:ATree)(w:kV)(st ins:Bool)(h:EIn B m a w){x:ATree}{r:List ATree}(p:a.kind=24)(hk:a.kids=x::r):Vt B a w st ins:=by
 have O:qL a st ins=if x.kind==23&&LC st x.text then 5 else qy a.kids st ins:=by
  obtain⟨b,v,k,t,n,ks⟩:=a;simp only[ATree.kind,ATree.kids]at p hk;subst p;subst hk;rw[qL.eq_def];rfl
 refine FW ?_;intro iT gy code aD;rw[<-aD];rw[O]at aD;refine WM ?_;intro aI ao;rw[p]at ao;clear p;refine Zpc ?_;intro g cp bq d7 kQ nw q hq;rw[<-hq]at bq nw kQ;refine Zov ?_;intro HQ yE tx be;rw[<-be]at ao;try rw[<-be]at aI
 have eL:=lh be;unfold EW at ao;refine Ww ?_;intro kb js ke ka c1' ei;obtain⟨uA,uB,_,_⟩:=kQ _ ei;refine EI ?_;intro w2 cj;rw[<-cj]at ao;refine Ev ?_;intro q0 q1 q3 s0 s1 cO eE cP fA fc gz;clear hK h O aD be ei cj ao cO eE hk hq kQ;unfold ATree.ptr at gy ⊢;have hn0:0<q+1:=Qe
 have iW:(0:Int)<((q+1:Nat):Int):=Qe
 go_enter func89,ntmps89
 go_wp2_with fail
 rw[<-fA.o];clear ka c1' kb js ke uA uB;obtain⟨l3,l0,F,_⟩:=nw.o w2 fc.o;have x0:=F.c0;have u:=F.c1;obtain⟨y,U⟩:=zX x.text
 obtain⟨I,X⟩:=zX x.kind
 rw[<-U]at u aI;rw[<-X]at x0 aI;clear U X F l0 l3;have rO:=lh (Z6w w2.drew st ins y);obtain⟨bf,Y⟩:=zX (LC st y)
 rw[<-Y]at rO aI;clear Y;by_cases J:I=23
 .subst J;refine Z7 [0,2,4,6,8,10,12,14,16,18,20] [11,12] (λW=>vC W w.heap.size 0 (.bool st)/\vC W w.heap.size 1 (.bool ins)/\vC W x.b 0 (vI 23)/\vC W x.b 1 (.string y)) ⟨q0,q1,x0,u⟩ λ_=>?_;refine dS ?_
  iterate 11
   refine dq ?_
  refine Z1 ?_;go_wp2_with fail
  refine Zuz ?_;clear q0 q1 q3 s0 s1;intro w3 r0 r1 r3 u0 u1 ep gZ mu;cases bf;rotate_left
  .go_wp2;exact Zly
  go_wp2_with fail
  refine Zo7 ?_;intro w9 ew ea;exact TR
 .have CD:(I==23)=false:=by simpa using J
  rw[CD,Bool.false_and]at aI;clear J;refine Z7 [0,2,4,6,8,10,12,14,16,18,20] [11,12] (λW=>vC W w.heap.size 0 (.bool st)/\vC W w.heap.size 1 (.bool ins)/\vC W x.b 0 (vI I)/\vC W x.b 1 (.string y)) ⟨q0,q1,x0,u⟩ λ_=>?_;refine dS ?_
  iterate 11
   refine dq ?_
  refine Z1 ?_;have mr:w2.drew.cell? ⟨w.heap.size,0,none⟩=some (.bool st):=q0;have iq:w2.drew.cell? ⟨w.heap.size,1,none⟩=some (.bool ins):=q1;have PH:w2.drew.cell? ⟨w.heap.size+1,0,none⟩=some (vP a.b):=q3;have FG:Hid (TreeAt w2.drew B a):=lh (gz.o.keep λk _ _=>rfl);have Z:=lh fc.o.drew;clear q0 q1 q3 s0 s1 x0 u;go_wp2_with fail
  refine(gy.o w2.drew FG.o).mono ?_;rintro e w9⟨rfl,ew⟩;have ea:=lh ((Z.o).trans (ew.mono (Z.o).size));exact TR
def Zed{B m:Nat}(hK:Up B m)(a:ATree)(w:kV)(st ins:Bool)(h:EIn B m a w){x:ATree}{r:List ATree}(o:a.kind=34)(hk:a.kids=x::r):Vt B a w st ins:=by
 have y:qL a st ins=if st&&x.kind==23 then 1 else qy a.kids st ins:=by
  obtain⟨b,v,k,t,n,Y⟩:=a;simp only[ATree.kind,ATree.kids]at o hk;subst o;subst hk;rw[qL.eq_def];rfl
 refine FW ?_;intro iT gy code aD;rw[<-aD];rw[y]at aD;refine WM ?_;intro aI ao;rw[o]at ao;clear o;refine Zpc ?_;intro g cp bq d7 kQ nw q hq;rw[<-hq]at bq nw kQ;refine Zov ?_;intro HQ yE tx be;rw[<-be]at ao;try rw[<-be]at aI
 have Z:=lh be;unfold EW at ao;refine Ww ?_;intro kb js ke ka c1' ei;obtain⟨F,I,J,_⟩:=kQ _ ei;have p:=J.c0;obtain⟨O,U⟩:=zX x.kind
 rw[<-U]at p aI;clear U J;refine EI ?_;intro w2 cj;rw[<-cj]at ao;refine Ev ?_;intro q0 q1 q3 s0 s1 cO eE cP fA fc gz;clear hK h y aD be ei cj ao cO eE hk hq kQ;unfold ATree.ptr at gy ⊢;have hn0:0<q+1:=Qe
 have iW:(0:Int)<((q+1:Nat):Int):=Qe
 by_cases u:O=23
 .subst u;cases st
  .go_enter func89,ntmps89
   go_wp2_with fail
   rw[<-fA.o];clear ka c1' kb js ke F I p;refine Zum ?_;intro w9 ew ea;exact TR
  .exact Yy
 .have X:(O==23)=false:=by simpa using u
  rw[X,Bool.and_false]at aI;clear u;cases st
  all_goals
   go_enter func89,ntmps89
   go_wp2_with fail
   rw[<-fA.o];clear ka c1' kb js ke F I p;refine Zum ?_;intro w9 ew ea;clear ew;go_wp2;go_ret;exact⟨by rw[aI.o];rfl,ea.o⟩
def Zfv{B m:Nat}(hK:Up B m)(a:ATree)(w:kV)(st ins:Bool)(h:EIn B m a w)(g:a.kind=6):Vt B a w st ins:=by
 have y:qL a st ins=if EP a false then 9 else qy a.kids st ins:=by
  obtain⟨b,v,k,t,n,X⟩:=a;simp only[ATree.kind]at g;subst g;rw[qL.eq_def];rfl
 refine FW ?_;intro iT gy code aD;rw[<-aD];rw[y]at aD;refine WM ?_;intro aI ao;rw[g]at ao;clear g;have u:=lh (λW (t:TreeAt W B a)=>Zaj W B a st ins false t h.mx);obtain⟨tx,o⟩:=zX a.text
 rw[<-o]at ao;try rw[<-o]at aI
 have Y:=lh o;unfold EW at ao;refine Ww ?_;intro kb js ke ka c1' ei;refine EI ?_;intro w2 cj;rw[<-cj]at ao;refine Ev ?_;intro q0 q1 q3 s0 s1 cO eE cP fA fc gz;clear hK h y aD o ei cj ao cO eE;unfold ATree.ptr at gy ⊢;obtain⟨O,F⟩:=zX (EP a false)
 rw[<-F]at u aI;clear F;unfold ATree.ptr at u;go_enter func89,ntmps89
 go_wp2_with fail
 rw[<-fA.o];clear ka c1' kb js ke;refine(u.o w2 gz.o).mono ?_;rintro e w3⟨rfl,p⟩;have U:=p;obtain⟨Z,r1,r3,u0,u1,I,J⟩:=cP.o w3 p;obtain⟨ep,gZ,mu⟩:=ds p I J;clear U p I J q0 q1 q3 s0 s1;cases O;rotate_left
 .simp only[if_true];go_wp2;exact Zly
 simp only[Bool.false_eq_true,if_false];go_wp2_with fail
 refine Zo7 ?_;intro w9 ew ea;exact TR
def Zf9{B m:Nat}(hK:Up B m)(a:ATree)(w:kV)(st ins:Bool)(h:EIn B m a w)(g:a.kind=10):Vt B a w st ins:=by
 have p:qL a st ins=if ins then qy a.kids st ins else 6:=by
  obtain⟨b,v,k,t,n,u⟩:=a;simp only[ATree.kind]at g;subst g;rw[qL.eq_def];rfl
 refine FW ?_;intro iT gy code aD;rw[<-aD];rw[p]at aD;refine WM ?_;intro aI ao;rw[g]at ao;clear g;obtain⟨tx,o⟩:=zX a.text
 rw[<-o]at ao;try rw[<-o]at aI
 have y:=lh o;unfold EW at ao;refine Ww ?_;intro kb js ke ka c1' ei;refine EI ?_;intro w2 cj;rw[<-cj]at ao;refine Ev ?_;intro q0 q1 q3 s0 s1 cO eE cP fA fc gz;clear hK h p aD o ei cj ao cO eE;unfold ATree.ptr at gy ⊢;cases ins;·exact Yy
 .exact Aas
def Zgj{B m:Nat}(hK:Up B m)(a:ATree)(w:kV)(st ins:Bool)(h:EIn B m a w)(h2:a.kind≠2)(h3:a.kind≠3)(h4:a.kind≠4)(o:a.kind≠13)(h5:a.kind≠5)(p:a.kind≠37)(u:a.kind≠6)(y:a.kind≠7)(F:a.kind≠8)(I:a.kind≠9)(J:a.kind≠10)(O:a.kind≠24)(U:a.kind≠34):Vt B a w st ins:=by
 have Y:qL a st ins=qy a.kids st ins:=by
  obtain⟨b,v,k,t,n,ks⟩:=a;simp only[ATree.kind]at h2 h3 h4 o h5 p u y F I J O U;rw[qL.eq_def];simp only[h2,h3,h4,o,h5,p,u,y,F,I,J,O,U,or_self,if_false,ATree.kids]
 refine FW ?_;intro iT gy code aD;rw[<-aD];rw[Y]at aD;refine WM ?_;intro aI ao;obtain⟨g,Z⟩:=zX a.kind
 rw[<-Z]at ao h2 h3 h4 o h5 p u y F I J O U;obtain⟨tx,X⟩:=zX a.text
 rw[<-X]at ao;try rw[<-X]at aI
 have eL:=lh X;unfold EW at ao;refine Ww ?_;intro kb js ke ka c1' ei;refine EI ?_;intro w2 cj;rw[<-cj]at ao;refine Ev ?_;intro q0 q1 q3 s0 s1 cO eE cP fA fc gz;clear hK h Y aD X ei cj ao cO eE;unfold ATree.ptr at gy ⊢;have n2:(g==2)=false:=Sq
 have n3:(g==3)=false:=Sr
 have n4:(g==4)=false:=RH
 have PI:(g==13)=false:=by simpa using o
 have n5:(g==5)=false:=Sp
 have PJ:(g==37)=false:=by simpa using p
 have n6:(g==6)=false:=by simpa using u
 have n7:(g==7)=false:=by simpa using y
 have n8:(g==8)=false:=by simpa using F
 have n9:(g==9)=false:=by simpa using I
 have Ea:(g==10)=false:=by simpa using J
 have PK:(g==24)=false:=by simpa using O
 have PM:(g==34)=false:=by simpa using U
 clear Z h2 h3 h4 o h5 p u y F I J O U;exact Aas
def Abi{q:Srt}{l:List Tree}(h:Wf q l):WTL l:=by
 induction h<;>simp only[WTL,WT,and_true,List.length_cons,List.length_nil]at * <;>(repeat' apply Yu)<;>first
  |assumption
  |trivial
  |(constructor<;>intros<;>omega)
def Zb0{text:kB}{t:Tree}(h:Zm text=.ok t):WT t/\t.many<=1500:=by
 obtain⟨l,g,rfl,m⟩:=Z5q h;exact⟨⟨Ar.any Qg,Abi g⟩,m⟩
def Zdg(w:kV)(r:Except (Int×Int) Tree)(e:Ending)(w':kV):Prop:=
 kW w w'/\match r with
 | .ok t=>∃a,e=.returned (.tuple #[vP a.b,.bool (t.kind==1)])/\Got w w.heap.size w' a t
 | .error _=>e=.returned (.tuple #[.pointer none,.bool false])
theorem Znt{a:ATree}{t:Tree}(h:a.tree=t):t.kind=a.kind:=by subst h;cases a;rfl
def Z9p(w:kV)(text:kB)(I:Words w)(J:EO w w.heap.size) :
 kC 4 #[.string text] w (Zdg w (Zm text)):=by
 have g:=lh (Zac w text I J);obtain⟨r,hr⟩:=zX (Zm text)
 rw[<-hr]at g ⊢;clear hr I J;unfold Zdg;cases r with
 |error x=>
   obtain⟨c,p⟩:=x;go_enter func4,ntmps4
   go_wp2_with fail
   refine g.o.mono ?_;rintro e w1⟨hb,x,rfl,hx⟩;have F:=lh hb;have U:x≠.nilIface:=by
    rcases hx with⟨_,rfl⟩|⟨q,_,hx⟩;·simp
    .obtain⟨_,rfl,_⟩:=hx;simp
   obtain⟨T,y,rfl⟩:∃T y,x=.iface T y:=by
    exact Zw6
   clear hb hx U g;go_wp2_with fail
   refine Z7 [0,2,4,6,8,10,12,14,16,18,20,22,24,26,28] [15] (λ_=>True) trivial λ_=>?_;refine dS ?_
   iterate 15
    refine dq ?_
   refine Z1 ?_;go_wp2;go_ret2
   exact⟨F.o.drew,rfl⟩
 |ok t=>
   go_enter func4,ntmps4
   go_wp2_with fail
   refine g.o.mono ?_;rintro e w1⟨hb,a,rfl,m⟩;have c0:=m.at'.c0;have hk:=Znt m.tree;obtain⟨X,O⟩:=zX a.kind
   rw[<-O]at hk c0;obtain⟨Y,F,u⟩:=ds hk hb m;clear hb m g hk O;go_wp2_with fail
   refine Z7 [0,2,4,6,8,10,12,14,16,18,20,22,24,26,28] [15] (λW=>vC W a.b 0 (vI X)) c0 λ_=>?_;refine dS ?_
   iterate 15
    refine dq ?_
   refine Z1 ?_;go_wp2;go_ret2
   exact⟨F.o.drew,a,by rw[Y.o];rfl,u.o.tree,u.o.at'.keep λk _ _=>rfl,u.o.nodup,u.o.new⟩
def Zd5{l:List ATree}{n:Nat}(h:l.length=n+1):∃x r,l=x::r:=by
 match l,h with
 |x::r,_=>exact⟨x,r,rfl⟩
def Zap{l:List ATree}{n:Nat}(h:l.length=n)(hn:2<=n):∃x r,l=x::r/\1<=r.length:=by
 match l,h with
 |x::r,h=>exact⟨x,r,rfl,by simp at h;omega⟩
 | [],h=>simp at h;omega
def Zml(B:Nat):∀m,Zwj B m:=by
 intro m;induction m with
 |zero=>intro a w st ins p;obtain⟨b,v,k,t,n,ks⟩:=a;simp[ATree.many]at p
 |succ m X=>
   intro a w st ins p I Y Z;have g:Up B m:=Zhl X;have o:=I.self;have h:EIn B m a w:=⟨p,I,Y,Z⟩
   by_cases h2:a.kind=2\/a.kind=3\/a.kind=4;·exact Zmr g a w st ins h h2
   by_cases u:a.kind=13
   .obtain⟨x,r,hk⟩:=Zd5 (o.one (.inl u));exact Zh4 g a w st ins h u hk
   by_cases h5:a.kind=5\/a.kind=37
   .obtain⟨x,y,hk⟩:=AbJ (o.two Qe);exact Zje g a w st ins h h5 hk
   by_cases J:a.kind=6;·exact Zfv g a w st ins h J
   by_cases h7:a.kind=7\/a.kind=8\/a.kind=9
   .obtain⟨x,r,hk,hr⟩:∃x r,a.kids=x::r/\1<=r.length:=by
     by_cases h:a.kind=7
     .rcases o.if' h with h|h;·exact Zap h (Y0 _)
      .exact Zap h Qe
     .exact Zap (o.two Qe) (Y0 _)
    exact Zgl g a w st ins h h7 hk hr
   by_cases O:a.kind=10;·exact Zf9 g a w st ins h O
   by_cases U:a.kind=24
   .obtain⟨x,r,hk⟩:=Zd5 (o.two Qe);exact Zf7 g a w st ins h U hk
   by_cases F:a.kind=34
   .obtain⟨x,r,hk⟩:=Zd5 (o.one (.inr F));exact Zed g a w st ins h F hk
   exact Zgj g a w st ins h Qe Qe Qe u Qe Qe J Qe Qe Qe O U F
def Zct(w:kV)(B:Nat)(a:ATree)(st ins:Bool)(p:TreeAt w B a)(U:WA a)(u:a.many<274877906944) :
 kC 17 #[a.ptr,.bool st,.bool ins] w λe w'=>e=.returned (cL (AO a st ins))/\kW w w':=by
 have o:=lh (λW (h:TreeAt W B a)=>Z4e W B a h);obtain⟨sb,g⟩:=zX ((st||Zj a))
 obtain⟨s0,X⟩:=zX (Zj a)
 have kq:=lh (λW (h:TreeAt W B a)=>Zaj W B a sb ins true h u);have gy:=lh (λW (h:TreeAt W B a)=>Zhl (Zml B a.many) a W sb ins Qe (λk hk=>U.kid hk) u h);have Y:AO a st ins=if EP a true then 9 else qy a.kids sb ins:=by unfold AO;rw[g]
 rw[Y];obtain⟨SB,Z⟩:=zX (EP a true)
 obtain⟨RK,yw⟩:=zX (qy a.kids sb ins)
 rw[<-Z]at kq ⊢;rw[<-yw]at gy ⊢;rw[<-X]at o g;obtain⟨ev,y⟩:=zX (cL (if SB then 9 else RK))
 rw[<-y];have tu:=lh y;have m:kW w (w.alloc (.cells #[.bool sb,.bool ins] 122)):=(Y2 _ _).alloc (Y0 _) _;have F:(w.alloc (.cells #[.bool sb,.bool ins] 122)).cell? ⟨w.heap.size,0,none⟩=some (.bool sb):=Qm
 have I:(w.alloc (.cells #[.bool sb,.bool ins] 122)).cell? ⟨w.heap.size,1,none⟩=some (.bool ins):=Qm
 have ba:(w.alloc (.cells #[.bool sb,.bool ins] 122)).heap.size=w.heap.size+1:=Qm
 have HB:=lh m;have HT:=lh p;obtain⟨w1,J⟩:=zX (w.alloc (.cells #[.bool sb,.bool ins] 122))
 have od:=lh J;rw[<-J]at ba F I m;have O:∀W,kW w1 W->vC W w.heap.size 0 (.bool sb)/\vC W w.heap.size 1 (.bool ins)/\kW w W/\TreeAt W B a:=λW h=>by
  have h2:=m.trans (h.mono m.size);exact⟨(Yb (h.block w.heap.size Qe)).trans F,(Yb (h.block w.heap.size Qe)).trans I,h2,p.bel h2⟩
 obtain⟨q0,q1,cO,KS⟩:=O w1 (Y2 _ _);obtain⟨cP,DR,fc⟩:=ds O KS cO;have cJ:∀(K:Prop),K->K:=λ_ h=>h;clear p U u Y Z yw X y m ba F I J O cO KS cJ;unfold ATree.ptr at o kq gy ⊢;cases st
 .rw[Bool.false_or]at g;subst g;go_enter func17,ntmps17
  go_wp2_with fail
  refine(o.o w HT.o).mono ?_;rintro e w'⟨rfl,j6⟩;rw[j6];clear j6 w' o;exact Abm
 .rw[Bool.true_or]at g;subst g;go_enter func17,ntmps17
  exact Abm
section
variable {C:RCtx}{M M1:MRep}{w W:kV}{s:MSt}{B:Nat}{a:ATree}{sc vr:Int}{st:Bool}{d:Nat}{D:DF}{b:Int}{fr:Frm}{A:Act}{K:Act->kV->Prop}{Q:Exit->Act->kV->Prop}
theorem Zpo:ll []=Code.seq (ll [0]) (Code.seq (ll [1,0]) (Code.seq (ll [1,1,0]) (Code.seq (ll [1,1,1,0]) (Code.seq (ll [1,1,1,1,0]) (Code.seq (ll [1,1,1,1,1,0]) (Code.seq (ll [1,1,1,1,1,1,0]) (ll [1,1,1,1,1,1,1]))))))):=by kernel_rfl
def Abh(g:C.Ok){k:Nat}(hk:C.w0.heap.size<=k):C.N k=-3:=by
 rw[RCtx.N_eq];cases h:UG C.pl k with
 |none=>rfl
 |some v=>
   obtain⟨c,T,m⟩:=g.cells _ (Z90 h);have:=(Y1.1 m).1;simp only at this;omega
def Zjk{D:DF}{text:kB}{sc:Int}{x:Int×Int}(h:Zm text=.error x):Tr D text sc fr s=(s,.error (.thr (.say SQ))):=by
 unfold Tr Wj;rw[h];rfl
def Zjz{D:DF}{text:kB}{sc:Int}{t:Tree}(h:Zm text=.ok t):Tr D text sc fr s =
 if t.bare.check fr.strict false≠0 then(s,.error (.thr (.say SQ)))
 else if fr.strict||t.bare.strict then Vg D t.bare s.next ⟨true,s.next⟩ (s.opens sc (-1) (-3))
 else if Ur s.H t.bare fr.vars (sc+1).toNat sc then(s,.error (.thr (.say SQ)))
 else Vg D t.bare sc ⟨false,fr.vars⟩ s:=by
 unfold Tr Wj;rw[h];simp only;split;·rfl
 split;·rfl
 split<;>rfl
def EvS.box(h:EvS C M w st vr M1 W s)(i:Nat){x:Value}{st':Bool}{vr':Int}(he:(#[Value.bool st,Value.int .i64 vr]:Array Value).setIfInBounds i x=#[.bool st',vI vr']):EvS C M w st' vr' M1 (W.setCell ⟨w.heap.size,i,none⟩ x) s:=by
 obtain⟨m,o,g⟩:=h.lf.put h.mat h.fr Qg Qg i x;rw[he]at g;exact⟨m,o,g,Lo.beside (c':=#[]) (T':=71) h.lr (show w.heap.size+1≠w.heap.size by omega) i x⟩
def Zdl(g:TreeAt W B a)(m:∀k∈a.blocks,k≠w.heap.size)(i:Nat)(x:Value):TreeAt (W.setCell ⟨w.heap.size,i,none⟩ x) B a:=
 g.keepB λk hk=>Y8 _ _ _ _ (m k hk)
def Ab1{x:Er}{ev:Value}(g:EvS C M w st vr M1 W s)(he:ax C M1 W x ev){s1:MSt}(hs:s1=s) :
 bK C M w (s1,.error x) (.returned (.tuple #[.agg #[vI 0,vI 0,.string ⟨#[]⟩],ev])) (((W.setCell ⟨w.heap.size+1,0,none⟩ (vI 0)).setCell ⟨w.heap.size+1,1,none⟩ (vI 0)).setCell ⟨w.heap.size+1,2,none⟩ (.string ⟨#[]⟩)):=by
 subst hs;obtain⟨m,o,p⟩:=g.lr.ret (x':=(vI 0)) (y':=(vI 0)) (z':=.string ⟨#[]⟩) g.mat g.fr;exact⟨M1,m,o,⟨0,0,⟨#[]⟩⟩,ev,rfl,p _ _ he⟩
def Ze5(hW:Words C.w0)(hL:EO C.w0 C.w0.heap.size)(hC:C.Ok)(cV:FR C D b)(hD:DH D b)(h:MAt C M w s)(hI:Inv s (d+13601))(hA:FAt s sc fr)(hb:b<=s.steps)(hs:s.steps<=20000)(text:kB) :
 kC 145 #[vP C.mb,.string text,vI sc,.agg #[.bool fr.strict,vI fr.vars]] w λe w'=>bK C M w (Tr D text sc fr s) e w':=by
 obtain⟨g,rm⟩:=fr;obtain⟨u,lf,lr⟩:=Znr h ⟨g,rm⟩;unfold frO vO at u lf lr;dsimp only at u lf lr ⊢
 obtain⟨z,hz⟩:=zX ((w.alloc (.cells #[.bool g,vI rm] 78)).alloc (.cells #[vI 0,vI 0,.string ⟨#[]⟩] 71))
 rw[<-hz]at u lf lr;have J:=h.below u;have GT:EvS C M w g rm M z s:=⟨J,.of_below u,lf,lr⟩
 obtain⟨I,HS,HZ⟩:=ds (Zac z text (hW.below J.old) ((hL.keep λk hk=>J.old.block k hk).mono J.old.size)) GT hz;have bJ:=GT.size;obtain⟨HC,iU,HD,HI,HA,HB,HO⟩:=kF hC cV hD hI hA (Yu hb hs) (Y4 h.old.size u.size);clear hW hL hC cV hD h hI hA hb hs u lf lr J GT hz;obtain⟨R,m⟩:=zX (Tr D text sc ⟨g,rm⟩ s)
 rw[<-m];cases hpt:Zm text with
 |error xe=>
   rw[Zjk hpt]at m;have fe:=lh m;clear m;rw[hpt]at I;refine Zx2 ?_;conv=>arg 2;whnf
   go_wp2_with fail
   rw[<-HZ.o];refine I.o.mono ?_;rintro e w1⟨O,x,rfl,hx⟩;obtain⟨T,y,rfl⟩:∃T y,x=.iface T y:=by
    exact Zw6
   have DT:=lh (HS.o.bel O);clear O hx I;exact AaH
 |ok t=>
   rw[Zjz hpt]at m;rw[hpt]at I;obtain⟨x7,wR⟩:=Zb0 hpt;have Oe:=lh (show WT t from x7);have uq:Wj text=some t.bare:=by unfold Wj;rw[hpt]
   obtain⟨hst,o,-⟩:=Zay uq;obtain⟨n,hn⟩:=zX t.bare
   rw[<-hn]at hst o m;have HN:=lh (Yu hn (Yu hst o));obtain⟨U,uD⟩:=zX (n.check g false)
   rw[<-uD]at m;have mW:=lh m;clear m;have GU:=lh uD;clear x7 wR uq hst o hn uD hpt;refine Zx2 ?_;rw[Zpo];refine c9 ?_;intro K HK;go_wp2_with fail
   rw[<-HZ.o];refine HK.o _ _ ?_;clear HK K;refine c9 ?_;intro K HK;go_wp2_with fail
   refine I.o.mono ?_;rintro e w1⟨O,a,rfl,X⟩;have uy:=HS.o.bel O;have ey:∀k∈a.blocks,z.heap.size<=k:=λk hk=>(X.new k hk).1;have eW:a.free M:=λk hk=>HS.o.mat.fresh (ey k hk);have dl:∀k∈a.blocks,k≠w.heap.size:=λk hk e=>by have:=ey k hk;omega
   have Dq:a.nt C.N=n:=by
    rw[HN.o.1,<-X.tree];exact Zls a λk hk=>Abh HC.o (Y4 HO.o (ey k hk))
   have nu:=X.at';have oO:WA a:=Ztd a (by rw[X.tree];exact Oe.o);have hst:=HN.o.2.1;have o:=HN.o.2.2;rw[<-Dq]at hst o;have dw:a.many<=1500:=by rw[WG,U8]at o;exact o
   have gR:a.kids.length<=1500:=QM
   have Bx:U=AO a g false:=by rw[GU.o,<-Dq,Zoc]
   have sX:=Zct w1 z.heap.size a g false nu oO Qe;rw[<-Bx]at sX;simp only[ATree.ptr]at sX;obtain⟨KT,ed,yG,ip,Of,kN,tt⟩:=kF sX uy Dq (Yu hst (Yu o (Yu dw gR))) nu eW dl;obtain⟨f0,f1⟩:=uy.lf.two;clear O X uy ey eW dl Dq nu oO hst o dw gR Bx sX I;go_wp2_with fail
   refine HK.o _ _ ?_;clear HK K;refine c9 ?_;intro K HK;go_wp2_with fail
   refine KT.o.mono ?_;rintro e w2⟨rfl,ar⟩;have cH:=lh (ed.o.bel ar);have gz:=lh (Of.o.bel ar);clear ar KT f0 f1;obtain⟨f0,f1⟩:=cH.o.lf.two;have y0:=cH.o.lf.fz 0;by_cases fZ:U=0
   .have F:=mW.o;rw[Y3 (by simp[fZ])]at F;have fY:=lh F;clear F mW;rw[show cL U= .nilIface by rw[fZ];rfl];go_wp2_with fail
    refine HK.o _ _ ?_;clear HK K;cases g
    .cases hisa:Zj a
     .have GV:=lh hisa;have rU:=lh (show n.strict=false by rw[<-yG.o,Z6k,hisa]);clear hisa;refine c9 ?_;intro K HK;go_wp2_with fail
      refine HK.o _ _ ?_;clear HK K;refine c9 ?_;intro K HK;have p:=Z4e w2 z.heap.size a gz.o;rw[GV.o]at p;simp only[ATree.ptr]at p;have Y:=lh p;clear p;go_wp2_with fail
      refine Y.o.mono ?_;rintro e w3⟨rfl,Z⟩;rw[Z];clear Z w3 Y;go_wp2_with fail
      refine HK.o _ _ ?_;clear HK K f0 f1 y0;have pI:=lh (cH.o.box 0 (st':=false) (vr':=rm) rfl);have mn:=lh (Zdl gz.o tt.o 0 (.bool false));clear cH gz;generalize w2.setCell ⟨w.heap.size,0,none⟩ (.bool false)=W6 at pI mn ⊢;obtain⟨pb,cb,ch,bq,d7,cW⟩:=lL.slice mn.o.rowOf;obtain⟨qb,mD⟩:=zX a.kids.length
      rw[<-mD]at ch bq;have c3:=mn.o.c3;rw[ch]at c3;refine Aah ?_;intro py W7 oS xC lp hnm aH;rw[aH]at hnm;simp only[ATree.ptr,ATree.b]at hnm;have rT:=lh hnm;have lz:=lh (show EvS C M w false rm M W7 s by rw[oS];exact pI.o.bel py);have DO:=lh (show TreeAt W7 z.heap.size a by rw[oS];exact mn.o.bel py);have yF:=lh oS;clear ch bq d7 cW mD py oS xC hnm aH lp;refine c9 ?_;intro K HK;go_wp2_with fail
      rw[<-yF.o];refine rT.o.mono ?_;rintro e w8⟨v8,rfl,uW,pJ⟩;obtain⟨p8,n8,c8,rfl⟩:=uW.slice;obtain⟨xG,Cl,Ie⟩:=ds (lz.o.bel pJ) (DO.o.bel pJ) uW;clear pJ uW rT c3;go_wp2_with fail
      refine HK.o _ _ ?_;clear HK K;refine pT ?_;intro K HK;have an:R=if Ur s.H n rm (sc+1).toNat sc then(s,.error (.thr (.say SQ)))else Vg D n sc ⟨false,rm⟩ s:=by rw[fY.o];simp[rU.o]
      have bD:=lh an;clear an;refine Zqx xG.o HI.o.wf HA.o.anc HA.o.vlo Cl.o ip.o.2.2.2 Ie.o ⟨rfl,⟨rfl,rfl,rfl,rfl,rfl,rfl,trivial⟩,rfl⟩ (λA9 W9 gd Di ny=>?_) (λy a' w' gd h1 h2 h3=>Yp h1 h2 ?_)
      .refine HK.o _ _ ?_;clear HK K;refine Zn1 (d:=d) HC.o iU.o HD.o (xG.o.bel ny) (Cl.o.bel ny) kN.o ip.o.1 ip.o.2.1 (HI.o.less Qe) ⟨HA.o.root,HA.o.lo,HA.o.hi,HA.o.anc,HA.o.vlo⟩ HB.o.1 HB.o.2 Di (λy a' w' h1 h2 h3=>Yp h1 h2 ?_) (λ_ _ d _ _ h=>by cases d<;>exact h);rw[yG.o]at gd h3;rw[bD.o,Y3 (by rw[gd];simp)];exact h3
      .rw[yG.o]at gd;rw[bD.o,Y5 gd];exact h3
     .have GV:=lh hisa;have rU:=lh (show(false||n.strict)=true by rw[<-yG.o,Z6k,hisa];rfl);clear hisa;refine c9 ?_;intro K HK;go_wp2_with fail
      refine HK.o _ _ ?_;clear HK K;refine c9 ?_;intro K HK;have p:=Z4e w2 z.heap.size a gz.o;rw[GV.o]at p;simp only[ATree.ptr]at p;have Y:=lh p;clear p;go_wp2_with fail
      refine Y.o.mono ?_;rintro e w3⟨rfl,Z⟩;rw[Z];clear Z w3 Y;exact tq5
    .have rU:=lh (show(true||n.strict)=true from rfl);refine c9 ?_;intro K HK;go_wp2_with fail
     refine HK.o _ _ ?_;clear HK K;refine c9 ?_;intro K HK;exact tq5
   .have F:=mW.o;rw[Y5 fZ]at F;have fe:=lh F;clear F mW;rw[show cL U= .iface 35 (vI U) by unfold cL;rw[Y3 fZ]];have DT:=cH;go_wp2_with fail
    refine HK.o _ _ ?_;clear HK K;refine wp_seq_k (λK hK=>?_);clear hK;conv=>arg 2;whnf
    exact AaH
end
