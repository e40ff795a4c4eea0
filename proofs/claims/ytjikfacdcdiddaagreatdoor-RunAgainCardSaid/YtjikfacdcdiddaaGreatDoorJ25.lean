/- Package early: function. -/
import Derived.Test.YtjikfacdcdiddaaGreatDoorJ24
set_option maxRecDepth 100000
set_option maxHeartbeats 20000000
set_option linter.unusedVariables false
set_option linter.unusedSimpArgs false
namespace Go.Proofs.YtjikfacdcdiddaaGreatDoor
open Go Go.RowKit
theorem Zfc{st:Bool}{T:List ByteArray}{k:Nat}{s:ByteArray}(h:T[k]?=some s):Tu st (T.take k) (T.drop k)=if Ka st s then 5 else if st&&Lib.containsS (T.take k) s then 9 else Tu st (T.take (k+1)) (T.drop (k+1)):=by
 obtain⟨hk,he⟩:=List.getElem?_eq_some_iff.1 h;rw[List.drop_eq_getElem_cons hk,List.take_succ_eq_append_getElem hk,he];rfl
theorem Zm9(st:Bool)(t:ByteArray)(ps:List ByteArray)(bd:ATree)(K:Int):(if Ts st t ps bd≠0 then Ts st t ps bd else K) =
 if Ka st t then 5 else if Tu st [] ps≠0 then Tu st [] ps else if(L0 bd).any (λs=>Lib.containsS ps s)then 9 else if Lx bd true then 9 else K:=by
 unfold Ts;by_cases g:Ka st t=true;·simp only[if_pos g];rfl
 simp only[if_neg g];by_cases m:Tu st [] ps≠0;·simp only[if_pos m]
 simp only[if_neg m];by_cases o:(L0 bd).any (λs=>Lib.containsS ps s)=true;·simp only[if_pos o];rfl
 simp only[if_neg o];by_cases p:Lx bd true=true;·simp only[if_pos p];rfl
 simp only[if_neg p];rfl
theorem Zlc{B m:Nat}(hK:Sv B m)(a:ATree)(w:World)(st ins:Bool)(hm:a.many<=m+1)(fe:a.many<274877906944)(O:TreeAt w B a)(ps bd:ATree)(hk:a.kids=[ps,bd])(kf:∀k∈bd.kids,WA k) :
 Calls Tryz.prog 110 #[.agg #[.bool st,.bool ins],a.ptr] w λe w'=>e=.returned (vI (if Ts (st||Zj bd) a.text (ps.kids.map ATree.text) bd≠0 then Ts (st||Zj bd) a.text (ps.kids.map ATree.text) bd else rx bd.kids (st||Zj bd) true))∧Below w.heap.size w w':=by
 rw[Zm9];obtain⟨i0,hi,aD,bo,bT⟩:=info_parts Tryz.infoStr;have aU:ps∈a.kids∧bd∈a.kids:=Qf
 have nE:a.many=ps.many+bd.many+1:=by
  obtain⟨b,v,k,t,n,ks⟩:=a;simp only[ATree.kids]at hk;subst hk;simp only[ATree.many,xQ];omega
 obtain⟨p,cp,hv,cr,eu⟩:=O.vOf;have ae:=O.rowOf;obtain⟨g,hp⟩:∃g,p=some ⟨g,0,none⟩:=by
  rcases Z4 ae with⟨_,F⟩|⟨g,cap,E,_⟩;·rw[hk]at F;simp at F
  .rw[hv]at E;simp only[Value.slice.injEq]at E;exact⟨g,E.1⟩
 subst hp;have c3:vC w a.b 3 (.slice (some ⟨g,0,none⟩) 2 cp):=by rw[show(2:Nat)=a.kids.length by rw[hk];rfl,<-hv];exact O.c3
 have cx:=Zn ae (g:=g) Pv (i:=0) (x:=ps.ptr) QL;have cy:=Zn ae (g:=g) Pv (i:=1) (x:=bd.ptr) QL;have dN:2<=cp:=by rw[hk]at cr;exact cr
 unfold maxLen at eu;have J4:=(Y9 ae g Pv).2;have AT:=O.kid aU.1;have J5:=O.kid aU.2;obtain⟨p2,jP,xT,FY,fZ⟩:=AT.vOf;have p3:vC w ps.b 3 (.slice p2 ps.kids.length jP):=by rw[<-xT];exact AT.c3
 have c1:=O.c1;have ba:=YX ps;have Ai:=YX bd;have pM:ps.kids.length<=9223372036854775807:=Qn
 have rs:ps.kids.length<274877906944:=O'
 have mu:bd.kids.length<274877906944:=O'
 have CN:=lh xT;obtain⟨tx,bg⟩:=zX a.text
 rw[<-bg]at c1 ⊢;have iu:=lh (λwr (h:TreeAt wr B bd)=>WN wr B bd h);obtain⟨ib,ex⟩:=zX (Zj bd)
 rw[<-ex]at iu ⊢;obtain⟨sb,aN⟩:=zX ((st||ib))
 rw[<-aN];clear ex;obtain⟨T,qd⟩:=zX (ps.kids.map ATree.text)
 rw[<-qd];obtain⟨P,hP⟩:=zX (bd.kids.filter wH)
 have Ah:L0 bd=P.map ATree.text:=by rw[hP];rfl
 rw[Ah];have J6:∀x,x∈P->x∈bd.kids:=λx hx=>by rw[hP]at hx;exact(List.mem_filter.1 hx).1
 have vK:P.length<=bd.kids.length:=QS
 have hL:=λW (h:TreeAt W B bd)=>Va W B bd h O';simp only[<-hP]at hL;have HL:=lh hL;have Nk:=lh J6;have rJ:=lh (λW s=>Z6n W sb true s);have kB:=lh (λW (h:TreeAt W B bd)=>Za5 W B bd sb true true h O');have gm:=lh (λW (h:TreeAt W B bd)=>hK bd W sb true O' kf O' h);obtain⟨bf,pa⟩:=zX (Ka sb tx)
 obtain⟨RP,FZ⟩:=zX (Tu sb [] T)
 obtain⟨LB,o6⟩:=zX ((P.map ATree.text).any (λs=>Lib.containsS T s))
 obtain⟨SB,sR⟩:=zX (Lx bd true)
 obtain⟨RK,x8⟩:=zX (rx bd.kids sb true)
 rw[<-pa,<-FZ,<-o6,<-sR,<-x8];rw[<-sR]at kB;rw[<-x8]at gm;obtain⟨code,aw⟩:∃c:Int,c=if bf then 5 else if RP≠0 then RP else if LB then 9 else if SB then 9 else RK:=⟨_,rfl⟩
 rw[<-aw];have aF:=lh aw;have J7:=lh pa;have J8:=lh FZ;have rh:=lh o6;have iK:=lh qd;have an:∀W,Below w.heap.size w W->vC W a.b 3 (.slice (some ⟨g,0,none⟩) 2 cp)∧W.cell? ⟨g,0,none⟩=some ps.ptr∧W.cell? ⟨g,1,none⟩=some bd.ptr∧vC W ps.b 3 (.slice p2 ps.kids.length jP)∧vC W a.b 1 (.string tx)∧TreeAt W B ps∧TreeAt W B bd:=λW h=>
  ⟨(Yb (h.block a.b O.lt)).trans c3,(Yb (h.block g J4)).trans cx,(Yb (h.block g J4)).trans cy,(Yb (h.block ps.b AT.lt)).trans p3,(Yb (h.block a.b O.lt)).trans c1,AT.bel h,J5.bel h⟩
 have eI:Below w.heap.size w (w.alloc (.cells #[.bool st,.bool ins] 91)):=(Y2 _ _).alloc (Y0 _) _;have gD:Below w.heap.size w (w.alloc (.cells #[.bool sb,.bool true] 91)):=(Y2 _ _).alloc (Y0 _) _;obtain⟨k3,_,U,_⟩:=an _ eI;have cU:=lh an;have tS:=lh eI;unfold ATree.ptr at gm kB HL cU U iu ⊢;obtain⟨q,hq⟩:=zX ps.kids.length
 rw[<-hq]at cU pM FY rs;have HQ:=lh hq;clear hK O hm fe hk kf aU nE hv cr ae c3 cx cy AT J5 xT p3 c1 ba Ai bg qd hP Ah J6 hL pa FZ o6 sR x8 aw an eI hq;cases st;rw[Bool.false_or]at aN;subst aN;go_enter Tryz.func110,Tryz.ntmps110
 go_wp2_with fail
 refine(iu.o _ (cU.o _ tS.o).2.2.2.2.2.2).mono ?_;rintro e w'⟨rfl,ke⟩;rw[ke];clear ke w' iu;go_wp2_with fail
 rotate_left
 rw[Bool.true_or]at aN;have cJ:=lh aN;clear aN iu;go_enter Tryz.func110,Tryz.ntmps110
 go_wp2_with fail
 rw[show(w.alloc (.cells #[.bool true,.bool true] 91))=w.alloc (.cells #[.bool sb,.bool true] 91)from by rw[cJ.o]];clear cJ
 all_goals
  have d0:(w.alloc (.cells #[.bool sb,.bool true] 91)).cell? ⟨w.heap.size,0,none⟩=some (.bool sb):=Pg
  have d1:(w.alloc (.cells #[.bool sb,.bool true] 91)).cell? ⟨w.heap.size,1,none⟩=some (.bool true):=Pg
  have be:(w.alloc (.cells #[.bool sb,.bool true] 91)).heap.size=w.heap.size+1:=Pg
  obtain⟨w1,eh⟩:=zX (w.alloc (.cells #[.bool sb,.bool true] 91))
  rw[<-eh]at d0 d1 be gD ⊢;obtain⟨_,_,_,_,c1,_,_⟩:=cU.o _ gD;have um:∀W,Below w1.heap.size w1 W->vC W w.heap.size 0 (.bool sb)∧vC W w.heap.size 1 (.bool true)∧Below w.heap.size w W∧w1.heap.size<=W.heap.size:=λW h=>
   ⟨(Yb (h.block w.heap.size O')).trans d0,(Yb (h.block w.heap.size O')).trans d1,gD.trans (h.mono gD.size),h.size⟩
  have H1:=lh um;have uo:=lh gD;have nW:=lh eh;clear um gD eh k3 U;refine Z8 [0,2,4,6,8] [5] (λW=>vC W w.heap.size 0 (.bool sb)∧vC W w.heap.size 1 (.bool true)∧vC W a.b 1 (.string tx)) ⟨d0,d1,c1⟩ λ_=>?_;refine dW ?_
  iterate 5
   refine dV ?_
  refine Z0 ?_;go_wp2_with fail
  refine(rJ.o w1.drew tx).mono ?_;rintro e w2⟨rfl,ax⟩;rw[<-J7.o];have aO:Hid (Below w1.heap.size w1 w2):=lh ((Y2 w1.heap.size w1).drew.trans ax);clear ax J7 d0 d1 c1;obtain⟨x0,x1,wv,cO⟩:=H1.o _ aO.o;obtain⟨k3,kx,U,k4,_,_,_⟩:=cU.o _ wv;have sQ:=lh wv;clear wv;cases bf;rotate_left
  .go_wp2;go_ret;exact⟨by rw[aF.o];rfl,sQ.o⟩
  go_wp2_with fail
  go_loopw [5,40] (λv i wr=>∃(k:Nat) (v':Value),v'=v∧k<=q∧i=(vI k)∧Hid (Zy wr w1.heap.size v' (T.take k))∧Hid (Below w1.heap.size w1 wr)∧Hid (Tu sb (T.take k) (T.drop k)=RP)) (λ_ i _=>q-(intOf i).toNat)
  case atStart=>exact⟨0,_,rfl,Yh _,rfl,lh (Zy.nil _ _),aO,lh J8.o.symm⟩
  case round=>
   obtain⟨k,v,rfl,hk,rfl,I,J,HR⟩:=hrel;clear aO sQ;obtain⟨y0,y1,X,x7⟩:=H1.o _ J.o;obtain⟨k3,kx,U,k4,_,mU,lL⟩:=cU.o _ X;have eX:=lh X;by_cases bV:k<q
   .obtain⟨x,hx⟩:∃x,ps.kids[k]? =some x:=⟨_,Y6 Qg⟩
    have ae:=mU.rowOf;rcases Z4 ae with⟨_,F⟩|⟨g0,gf,fG,_⟩;·rw[<-HQ.o]at F;omega
    have hp:p2=some ⟨g0,0,none⟩:=by
     have:=CN.o.symm.trans fG;simp only[Value.slice.injEq]at this;exact this.1
    subst hp;refine NP ?_;intro cx;unfold ATree.ptr at cx;have eF:=mU.kid (Yd hx);have c1:=eF.c1;have jx:=eF.lt;have rX:T[k]?=some x.text:=by rw[iK.o,Yg,hx];rfl
    have aP:=Zfc (st:=sb) rX;rw[HR.o]at aP;have cW:(T.take k).length=k:=by rw[List.length_take,iK.o,Ym,<-HQ.o];omega
    have dT:T.take k++[x.text]=T.take (k+1):=by
     exact Zsp
    obtain⟨Y,im⟩:=zX x.text
    rw[<-im]at c1 aP dT;obtain⟨l,hl⟩:=zX (T.take k)
    rw[<-hl]at aP cW dT I;obtain⟨bp,F8⟩:=zX (Ka sb Y)
    rw[<-F8]at aP;obtain⟨cb,me⟩:=zX (Lib.containsS l Y)
    rw[<-me]at aP;obtain⟨pv,nv,cv,rfl⟩:=I.o.slice;have pI:=lh me;have tD:=lh F8;have fC:=lh aP;have xM:=lh dT;clear ae fG hx eF rX aP dT im hl F8 me mU lL X k3 kx U k4;go_wp2_with fail
    refine Z8 [0,2,4,6,8] [5,6] (λW=>vC W w.heap.size 0 (.bool sb)∧vC W w.heap.size 1 (.bool true)∧vC W x.b 1 (.string Y)) ⟨y0,y1,c1⟩ λ_=>?_;refine dW ?_
    iterate 5
     refine dV ?_
    refine Z0 ?_;go_wp2_with fail
    refine(rJ.o wr.drew Y).mono ?_;rintro e Z⟨rfl,aX⟩;rw[<-tD.o];have eE:Below wr.heap.size wr Z:=(Y2 wr.heap.size wr).drew.trans aX;have bP:=lh (J.o.trans (eE.mono x7));have qK:=lh (I.o.bel eE);have CE:vC Z x.b 1 (.string Y):=(Yb (eE.block x.b jx)).trans c1;obtain⟨z0,z1,AU,Di⟩:=H1.o _ bP.o;have AV:=lh AU;have Nl:x.b<Z.heap.size:=Y7 jx eE.size;clear aX eE tD y0 y1 c1 I J HR eX AU;cases bp;rotate_left
    .go_wp2;go_ret;refine⟨?_,AV.o⟩;have E:=fC.o;simp only[if_true]at E;rw[aF.o,E];rfl
    cases sb
    .have rL:=qK;unfold Zy at rL;clear pI
     go_wp2_with (at_builtin;go_must (refine wpList_append_lies _ rfl (.tmp 62) (.tmp 67) 26 rfl w1.heap.size 9 i0 (.string ByteArray.empty) 1 16 Tryz.underlying26 hi aD bo bT rfl Pa (.slice pv nv cv) l.length (l.map Value.string) rfl (rL.o.alloc _) ⟨Z.heap.size,0,none⟩ 1 1 [.string Y] rfl rfl (λj u hu=>cell_one_new Z _ _ j u hu) Pj Ph Pc Ph Ph (Z.heap.size+1) Pg ?_);intro g cap w4 aM ay ch fO;have HG:=lh ay;have HW:=lh aM;clear ay aM ch fO)
     go_roundw
     case rel=>
      refine⟨k+1,_,rfl,by omega,by go_num,lh ?_,lh ?_,lh ?_⟩
      .rw[<-xM.o];have F:=Z8m HW.o;rw[cW]at F;exact F
      .exact Zuv
      .have E:=fC.o;simp only[Bool.false_eq_true,if_false,Bool.false_and]at E;exact E.symm
     case measure=>simp[intOf];omega
    .have sH:=lh (Vt qK.o Y);rw[<-pI.o]at sH;clear pI;have rL:=qK;unfold Zy at rL;go_wp2_with fail
     refine sH.o.mono ?_;rintro e w'⟨rfl,ke⟩;rw[ke];clear ke w' sH;cases cb;rotate_left
     .go_wp2;go_ret;refine⟨?_,AV.o⟩;have E:=fC.o;simp only[Bool.false_eq_true,if_false,Bool.and_self,if_true]at E;rw[aF.o,E];rfl
     go_wp2_with (at_builtin;go_must (refine wpList_append_lies _ rfl (.tmp 62) (.tmp 67) 26 rfl w1.heap.size 9 i0 (.string ByteArray.empty) 1 16 Tryz.underlying26 hi aD bo bT rfl Pa (.slice pv nv cv) l.length (l.map Value.string) rfl (rL.o.alloc _) ⟨Z.heap.size,0,none⟩ 1 1 [.string Y] rfl rfl (λj u hu=>cell_one_new Z _ _ j u hu) Pj Ph Pc Ph Ph (Z.heap.size+1) Pg ?_);intro g cap w4 aM ay ch fO;have HG:=lh ay;have HW:=lh aM;clear ay aM ch fO)
     go_roundw
     case rel=>
      refine⟨k+1,_,rfl,by omega,by go_num,lh ?_,lh ?_,lh ?_⟩
      .rw[<-xM.o];have F:=Z8m HW.o;rw[cW]at F;exact F
      .exact Zuv
      .have E:=fC.o;simp only[Bool.false_eq_true,if_false,Bool.and_false]at E;exact E.symm
     case measure=>simp[intOf];omega
   .have aR:k=q:=by omega
    subst aR;have cW:T.length=k:=by rw[iK.o,Ym,<-HQ.o]
    have bg:=I.o;rw[Ye O']at bg;have Nm:RP=0:=by
     have:=HR.o;rw[Ye O',List.drop_of_length_le O']at this;rw[<-this];rfl
    subst Nm;have BE:=lh bg;obtain⟨pv,nv,cv,rfl⟩:=bg.slice;have CQ:=lh lL;clear bg X mU lL I HR cW k4 kx J8;go_wp2_with fail
    refine(HL.o wr CQ.o).mono ?_;rintro e w5⟨v5,rfl,gP,gu⟩;obtain⟨p5,qf,rfl,jp,mP,fQ⟩:=gP.slice;have gy:=lh (J.o.trans (gu.mono x7));have J9:=lh (BE.o.bel gu);have N5:=lh gP;have jq:=lh fQ;obtain⟨zf,Aj⟩:=zX wr.heap.size
    rw[<-Aj]at N5;obtain⟨m2,fq⟩:=zX P.length
    have D3:m2<=9223372036854775807:=by unfold maxLen at mP;omega
    rw[<-fq]at jp N5 vK ⊢;have bZ:=lh fq;clear gP gu fQ Aj fq BE J eX;go_wp2_with fail
    go_loopw [78] (λi wr=>∃(k:Nat),k<=m2∧i=(vI k)∧Hid (Zy wr w1.heap.size (.slice pv nv cv) T)∧Hid (jm wr zf (.slice p5 m2 qf) P)∧Hid (Below w1.heap.size w1 wr)∧Hid (∀x∈P.take k,Lib.containsS T x.text=false)) (λi _=>m2-(intOf i).toNat)
    case atStart=>exact⟨0,Yh _,rfl,J9,N5,gy,lh Pg⟩
    case round=>
     obtain⟨k,hk,rfl,I,NO,J,HF⟩:=hrel;clear J9 N5 gy;obtain⟨y0,y1,X,x7⟩:=H1.o _ J.o;obtain⟨k3,kx,U,k4,_,mU,lL⟩:=cU.o _ X;have eX:=lh X;by_cases bV:k<m2
     .obtain⟨x,hx⟩:∃x,P[k]? =some x:=⟨_,Y6 Q7⟩
      obtain⟨g0,hp⟩:=jq.o k x hx;subst hp;have cx:=NO.o.cell rfl hx;have eF:=lL.kid (Nk.o x (Yd hx));have c1:=eF.c1;have sH:=lh (Vt I.o x.text);obtain⟨cb,me⟩:=zX (Lib.containsS T x.text)
      rw[<-me]at sH;have pI:=lh me;have HX:=lh hx;obtain⟨Y,im⟩:=zX x.text
      rw[<-im]at c1 sH;clear eF hx me im mU lL X k3 kx U k4 y0 y1;go_wp2_with fail
      refine sH.o.mono ?_;rintro e w'⟨rfl,ke⟩;rw[ke];clear ke w' sH;cases cb
      .go_wp2;go_roundw
       case rel=>
        refine⟨k+1,by omega,by go_num,I,NO,J,lh ?_⟩;intro y hy;obtain⟨ba,qX⟩:=List.getElem?_eq_some_iff.1 HX.o;rw[List.take_succ_eq_append_getElem ba,List.mem_append]at hy;rcases hy with hy|hy;·exact HF.o y hy
        .simp only[List.mem_singleton]at hy;rw[hy,qX];exact pI.o.symm
       case measure=>simp[intOf];omega
      .go_wp2;go_ret;refine⟨?_,eX.o⟩;have E:LB=true:=by
        rw[rh.o,List.any_eq_true];exact⟨x.text,List.mem_map.2 ⟨x,Yd HX.o,rfl⟩,pI.o.symm⟩
       rw[aF.o,E];rfl
     .have aR:k=m2:=by omega
      subst aR;have E:LB=false:=by
       rw[rh.o,List.any_eq_false];intro s hs;obtain⟨y,hy,rfl⟩:=List.mem_map.1 hs;have:=HF.o y (by rw[Ye (by rw[<-bZ.o];exact Y0 _)];exact hy);simp[this]
      subst E;have CQ:=lh lL;clear mU lL X k4 kx HF I NO rh;go_wp2_with fail
      refine Z8 [0,2,4,6,8,10,12] [7,8] (λW=>vC W w.heap.size 0 (.bool sb)∧vC W w.heap.size 1 (.bool true)∧vC W a.b 3 (.slice (some ⟨g,0,none⟩) 2 cp)∧vC W g 1 (vP bd.b)) ⟨y0,y1,k3,U⟩ λ_=>?_;refine dW ?_
      iterate 7
       refine dV ?_
      refine Z0 ?_;go_wp2_with fail
      refine(kB.o wr.drew (CQ.o.keep λk _ _=>rfl)).mono ?_;rintro e w7⟨rfl,jr⟩;have i':Below wr.heap.size wr w7:=(Y2 wr.heap.size wr).drew.trans jr;have nY:=lh (J.o.trans (i'.mono x7));obtain⟨z0,z1,ww,Nn⟩:=H1.o _ nY.o;obtain⟨l3,_,ly,_,_,_,AW⟩:=cU.o _ ww;have wC:=lh ww;have F':=lh AW;clear jr i' ww AW y0 y1 k3 U CQ J eX;cases SB;rotate_left
      .simp only[if_true];go_wp2;go_ret;exact⟨by rw[aF.o];rfl,wC.o⟩
      simp only[Bool.false_eq_true,if_false];go_wp2_with fail
      refine Z8 [0,2,4,6,8,10,12] [7,8] (λW=>vC W w.heap.size 0 (.bool sb)∧vC W w.heap.size 1 (.bool true)∧vC W a.b 3 (.slice (some ⟨g,0,none⟩) 2 cp)∧vC W g 1 (vP bd.b)) ⟨z0,z1,l3,ly⟩ λ_=>?_;refine dW ?_
      iterate 7
       refine dV ?_
      refine Z0 ?_;go_wp2_with fail
      refine(gm.o w7.drew (F'.o.keep λk _ _=>rfl)).mono ?_;rintro e w8⟨rfl,i'⟩;have ru:Hid (Below w.heap.size w w8):=lh (wC.o.drew.trans (i'.mono wC.o.size));clear i';go_wp2;go_ret;exact⟨by rw[aF.o];rfl,ru.o⟩
structure EIn(B m:Nat)(a:ATree)(w:World):Prop where
 m:a.many<=m+1
 wa:WA a
 mx:a.many<274877906944
 t:TreeAt w B a
def Tl(B:Nat)(a:ATree)(w:World)(st ins:Bool):Prop:=
 Calls Tryz.prog 71 #[.agg #[.bool st,.bool ins],a.ptr] w λe w'=>e=.returned (vI (qB a st ins))∧Below w.heap.size w w'
def EW(B:Nat)(a:ATree)(st ins:Bool)(g:Int)(tx:ByteArray)(w W:World):Prop:=
 vC W w.heap.size 0 (.bool st)∧vC W w.heap.size 1 (.bool ins)∧vC W (w.heap.size+1) 0 (vP a.b)∧
 vC W a.b 0 (vI g)∧vC W a.b 1 (.string tx)∧Below w.heap.size w W∧TreeAt W B a
theorem Um(w:World)(B:Nat)(a:ATree)(st ins:Bool)(g:TreeAt w B a):∀W,Below ((w.alloc (.cells #[.bool st,.bool ins] 91)).alloc (.cells #[vP a.b] 22)).heap.size ((w.alloc (.cells #[.bool st,.bool ins] 91)).alloc (.cells #[vP a.b] 22)) W->EW B a st ins a.kind a.text w W:=by
 have o:Below w.heap.size w (w.alloc (.cells #[.bool st,.bool ins] 91)):=(Y2 _ _).alloc (Y0 _) _;have p:Below w.heap.size w ((w.alloc (.cells #[.bool st,.bool ins] 91)).alloc (.cells #[vP a.b] 22)):=o.alloc o.size _;have u:w.heap.size<(w.alloc (.cells #[.bool st,.bool ins] 91)).heap.size:=Pg
 have E:((w.alloc (.cells #[.bool st,.bool ins] 91)).alloc (.cells #[vP a.b] 22)).heap.size=w.heap.size+2:=Pg
 have y:((w.alloc (.cells #[.bool st,.bool ins] 91)).alloc (.cells #[vP a.b] 22)).cell? ⟨w.heap.size,0,none⟩=some (.bool st):=(Zb (by exact u)).trans Pg;have b1:((w.alloc (.cells #[.bool st,.bool ins] 91)).alloc (.cells #[vP a.b] 22)).cell? ⟨w.heap.size,1,none⟩=some (.bool ins):=(Zb (by exact u)).trans Pg;have b3:((w.alloc (.cells #[.bool st,.bool ins] 91)).alloc (.cells #[vP a.b] 22)).cell? ⟨w.heap.size+1,0,none⟩=some (vP a.b):=Pg
 intro W h;have m:=p.trans (h.mono p.size);exact⟨(Yb (h.block w.heap.size O')).trans y,(Yb (h.block w.heap.size O')).trans b1,(Yb (h.block (w.heap.size+1) O')).trans b3,(Yb (m.block a.b g.lt)).trans g.c0,(Yb (m.block a.b g.lt)).trans g.c1,m,g.bel m⟩
theorem EIn.first{B m:Nat}{a x:ATree}{r:List ATree}{w:World}(h:EIn B m a w)(hk:a.kids=x::r) :
 ∃ g o, r.length + 1 ≤ o ∧ o ≤ 9223372036854775807 ∧ ∀ W, Below w.heap.size w W → vC W a.b 3 (.slice (some ⟨g, 0, none⟩) (r.length + 1) o) ∧ vC W g 0 (vP x.b) ∧ TreeAt W B x ∧
   ∀j y,r[j]?=some y->W.cell? ⟨g,1+j,none⟩=some y.ptr∧TreeAt W B y:=by
 obtain⟨p,o,hv,U,F⟩:=h.t.vOf;have hl:a.kids.length=r.length+1:=by rw[hk,List.length_cons]
 obtain⟨g,hp⟩:∃g,p=some ⟨g,0,none⟩:=by
  rcases Z4 h.t.rowOf with⟨_,I⟩|⟨g,cap,E,_⟩;·rw[hk]at I;simp at I
  .rw[hv]at E;simp only[Value.slice.injEq]at E;exact⟨g,E.1⟩
 subst hp;unfold maxLen at F;refine⟨g,o,by omega,F,λW q=>?_⟩;have u:=h.t.bel q;have J:=u.rowOf;refine⟨by have:=u.c3;rw[hv,hl]at this;exact this,Zn J (g:=g) Pv (i:=0) (x:=x.ptr) QL,u.kid Qf,λj y O=>⟨?_,u.kid (by rw[hk];exact List.mem_cons_of_mem _ (Yd O))⟩⟩;rw[Nat.add_comm];exact Zn J (g:=g) Pv (i:=j+1) (x:=y.ptr) (by rw[hk,List.map_cons,List.getElem?_cons_succ,Yg,O];rfl)
theorem Zks{B m:Nat}(hK:Sv B m)(a:ATree)(w:World)(st ins:Bool)(h:EIn B m a w)(u:a.kind=2∨a.kind=3∨a.kind=4):Tl B a w st ins:=by
 have y:qB a st ins=if Ka st a.text then 5 else rx a.kids st ins:=by
  obtain⟨b,v,k,t,n,ks⟩:=a;simp only[ATree.kind]at u;rw[qB.eq_def];have e:k≠13:=O'
  have I:k=2∨k=3∨k=4∨k=13:=O'
  simp only[];rw[Y5 I];simp only[e,false_and,if_false];rfl
 refine C0 ?_;intro iV gm code aw;rw[<-aw];rw[y]at aw;have g:=lh aw;have an:=Um w B a st ins h.t;obtain⟨kd,E⟩:=zX a.kind
 rw[<-E]at an u;clear E;obtain⟨tx,p⟩:=zX a.text
 rw[<-p]at an;try rw[<-p]at g
 have eY:=lh p;unfold EW at an;obtain⟨J,O,U,X,c1',Y,_⟩:=an _ (Y2 _ _);refine Dy ?_;intro w2 cw;rw[<-cw]at an;refine B' ?_;intro q0 q1 q3 s0 s1 cH eK cU fH eX gr;clear hK h y aw p Y cw an cH eK;unfold ATree.ptr at gm ⊢;have rJ:=lh (Z6n w2.drew st ins tx);obtain⟨Z,F⟩:=zX (Ka st tx)
 rw[<-F]at rJ g;clear F;rcases u with rfl|rfl|rfl
 all_goals
  go_enter Tryz.func71,Tryz.ntmps71
  go_wp2_with fail
  rw[<-fH.o];clear X c1' J O U;refine Z8 [0,2,4,6,8] [5] (λW=>vC W w.heap.size 0 (.bool st)∧vC W w.heap.size 1 (.bool ins)∧vC W (w.heap.size+1) 0 (vP a.b)∧vC W a.b 1 (.string tx)) ⟨q0,q1,q3,s1⟩ λ_=>?_;refine dW ?_
  iterate 5
   refine dV ?_
  refine Z0 ?_;go_wp2_with fail
  refine Zsd ?_;clear q0 q1 q3 s0 s1;intro w3 r0 r1 r3 u0 u1 fc gy ms;cases Z;rotate_left
  .go_wp2;go_ret;exact⟨by rw[g.o];rfl,gy.o⟩
  go_wp2_with fail
  refine Zrz ?_;intro w9 fT;go_wp2;go_ret;exact⟨by rw[g.o];rfl,fT.o⟩
theorem Zg6{B m:Nat}(hK:Sv B m)(a:ATree)(w:World)(st ins:Bool)(h:EIn B m a w){x:ATree}{r:List ATree}(p:a.kind=13)(hk:a.kids=x::r):Tl B a w st ins:=by
 have dz:qB a st ins=if Ka st a.text then 5 else if(FR false x).any (λs=>Zg s a.text)then 9 else rx a.kids st ins:=by
  obtain⟨b,v,k,t,n,ks⟩:=a;simp only[ATree.kind,ATree.kids]at p hk;subst p;subst hk;rw[qB.eq_def];simp only[true_and];rfl
 refine C0 ?_;intro iV gm code aw;rw[<-aw];rw[dz]at aw;have u:=lh aw;have an:=Um w B a st ins h.t;rw[p]at an;clear p;have ee:x.many<274877906944:=by have:=WQ (a:=a) (k:=x) Qf;have:=h.mx;omega
 refine Znx ?_;intro g cp cr eu kP nj q hq;rw[<-hq]at cr nj kP;refine Znw ?_;intro HQ yj tx bg;rw[<-bg]at an;try rw[<-bg]at u
 have eY:=lh bg;unfold EW at an;obtain⟨kX,jY,kY,kW,c1',eI,_⟩:=an _ (Y2 _ _);obtain⟨uq,ur,_,_⟩:=kP _ eI;refine Dy ?_;intro w2 cw;rw[<-cw]at an;refine B' ?_;intro q0 q1 q3 s0 s1 cH eK cU fH eX gr;clear hK h dz aw bg eI cw an cH eK hk hq kP;unfold ATree.ptr at gm ⊢;have hn0:0<q+1:=O'
 have iY:(0:Int)<((q+1:Nat):Int):=O'
 have rJ:=lh (Z6n w2.drew st ins tx);obtain⟨bf,pa⟩:=zX (Ka st tx)
 rw[<-pa]at rJ u;clear pa;go_enter Tryz.func71,Tryz.ntmps71
 go_wp2_with fail
 rw[<-fH.o];clear kW c1' kX jY kY uq ur;refine Z8 [0,2,4,6,8] [5] (λW=>vC W w.heap.size 0 (.bool st)∧vC W w.heap.size 1 (.bool ins)∧vC W (w.heap.size+1) 0 (vP a.b)∧vC W a.b 1 (.string tx)) ⟨q0,q1,q3,s1⟩ λ_=>?_;refine dW ?_
 iterate 5
  refine dV ?_
 refine Z0 ?_;go_wp2_with fail
 refine Zsd ?_;clear q0 q1 q3 s0 s1;intro w3 r0 r1 r3 u0 u1 fc gy ms;cases bf;rotate_left
 .go_wp2;go_ret;exact⟨by rw[u.o];rfl,gy.o⟩
 obtain⟨l3,l0,eF,_⟩:=nj.o w3 gy.o;have I:=lh (Z9v false w3 B x eF ee);obtain⟨nm,hnm⟩:=zX (FR false x)
 rw[<-hnm]at I u;unfold ATree.ptr at I;clear eF hnm;go_wp2_with fail
 refine I.o.mono ?_;rintro e E⟨v4,rfl,J,la⟩;obtain⟨pv,Co,rfl,Cp,E0,iL⟩:=J.form2;have O:Below w2.heap.size w2 E:=fc.o.trans (la.mono fc.o.size);obtain⟨o0,o1,o3,_,_,U,zY⟩:=cU.o E O;have sD:w.heap.size+1<E.heap.size:=by
  have p:=O.size;have h2:w2.heap.size=w.heap.size+2:=by rw[fH.o];simp
  omega
 have kU:=Zux ⟨w.heap.size+1,0,none⟩ Value.string (λs=>Zg s tx) (Below E.heap.size E) pv Co nm E (by unfold maxLen at E0;omega) Cp
  (fun i y hy => by
   obtain⟨g,X⟩:=iL i y hy;refine⟨g,0,X,λw1 h=>?_⟩;rw[Nat.zero_add];exact(Yb (h.block g (Y9 J g (by rw[X];rfl)).2)).trans (J.cells (by rw[X];rfl) hy))
  (fun y hy w1 h => by
   rw[eY.o];exact(Zll w1 B (w.heap.size+1) a y (zY.bel h) ((Yb (h.block _ sD)).trans o3)).mono λe w2 ⟨p,h2⟩=>⟨p,by rw[h2];exact h⟩)
  (Y2 _ _)
 have Y:=lh kU;have nY:=lh O;obtain⟨ag,Al⟩:=zX (nm.any (λs=>Zg s tx))
 rw[<-Al]at Y u;clear kU Al J la O U zY r0 r1 r3 l3 l0 u0 u1 iL I;go_wp2_with fail
 refine Y.o.mono ?_;rintro e w5⟨rfl,F⟩;obtain⟨o0,o1,o3,_,_,U,J'⟩:=cU.o w5 (nY.o.trans (F.mono nY.o.size));have Z:=lh U;have vJ:=lh J';clear F U J' Y;cases ag;rotate_left
 .go_wp2;go_ret;exact⟨by rw[u.o];rfl,Z.o⟩
 go_wp2_with fail
 refine(gm.o w5 vJ.o).mono ?_;rintro e w9⟨rfl,F⟩;have fT:=lh ((Z.o).trans (F.mono (Z.o).size));clear F;go_wp2;go_ret;exact⟨by rw[u.o];rfl,fT.o⟩
theorem Zhy{B m:Nat}(hK:Sv B m)(a:ATree)(w:World)(st ins:Bool)(h:EIn B m a w){ps bd:ATree}(g:a.kind=5∨a.kind=37)(hk:a.kids=[ps,bd]):Tl B a w st ins:=by
 have p:qB a st ins=if Ts (st||Zj bd) a.text (ps.kids.map ATree.text) bd≠0 then Ts (st||Zj bd) a.text (ps.kids.map ATree.text) bd else rx bd.kids (st||Zj bd) true:=by
  obtain⟨b,v,k,t,n,ks⟩:=a;simp only[ATree.kind,ATree.kids]at g hk;subst hk;obtain⟨b2,v2,k2,t2,n2,vh⟩:=bd;rw[qB.eq_def];have e:¬(k=2∨k=3∨k=4∨k=13):=O'
  simp only[e,g,if_false,if_true];rfl
 refine C0 ?_;intro iV gm code aw;rw[<-aw];rw[p]at aw;have I:=lh aw;have an:=Um w B a st ins h.t;have hf:=λW (t:TreeAt W B a)=>Zlc hK a W st ins h.m h.mx t ps bd hk (λk J=>(h.wa.kid (show bd∈a.kids by rw[hk];simp)).kid J);rw[<-aw]at hf;have u:=lh hf;clear hf hk;obtain⟨kd,y⟩:=zX a.kind
 rw[<-y]at an g;clear y;obtain⟨tx,o⟩:=zX a.text
 rw[<-o]at an;try rw[<-o]at I
 have eY:=lh o;unfold EW at an;obtain⟨O,U,X,Y,c1',Z,_⟩:=an _ (Y2 _ _);refine Dy ?_;intro w2 cw;rw[<-cw]at an;refine B' ?_;intro q0 q1 q3 s0 s1 cH eK cU fH eX gr;clear hK h p aw o Z cw an cH eK;unfold ATree.ptr at gm ⊢;unfold ATree.ptr at u;rcases g with rfl|rfl
 all_goals
  go_enter Tryz.func71,Tryz.ntmps71
  go_wp2_with fail
  rw[<-fH.o];clear Y c1' O U X;refine(u.o w2 gr.o).mono ?_;rintro e w3⟨rfl,E⟩;obtain⟨_,_,_,_,_,F,_⟩:=cU.o w3 E;have gy:=lh F;clear E F q0 q1 q3 s0 s1;go_wp2;go_ret;exact⟨rfl,gy.o⟩
theorem Zfu{B m:Nat}(hK:Sv B m)(a:ATree)(w:World)(st ins:Bool)(h:EIn B m a w){x:ATree}{r:List ATree}(o:a.kind=7∨a.kind=8∨a.kind=9)(hk:a.kids=x::r)(hr:1<=r.length):Tl B a w st ins:=by
 have I:qB a st ins=if(a.kind==9&&st)||r.any (λx=>!Sb x)then 1 else rx a.kids st ins:=by
  obtain⟨b,v,k,t,n,ks⟩:=a;simp only[ATree.kind]at o;simp only[ATree.kids]at hk;subst hk;rw[qB.eq_def];have Z:¬(k=2∨k=3∨k=4∨k=13):=O'
  have e2:¬(k=5∨k=37):=O'
  have e3:k≠6:=O'
  simp only[Z,e2,e3,o,if_false,if_true];rfl
 refine C0 ?_;intro iV gm code aw;rw[<-aw];rw[I]at aw;have aF:=lh aw;have an:=Um w B a st ins h.t;obtain⟨kd,J⟩:=zX a.kind
 rw[<-J]at an o aF;clear J;have gA:=lh hr;clear hr;refine Znx ?_;intro g cp cr eu kP nj q hq;rw[<-hq]at cr nj kP;refine Znw ?_;intro HQ yj tx bg;rw[<-bg]at an;try rw[<-bg]at aF
 have eY:=lh bg;unfold EW at an;obtain⟨kX,jY,kY,kW,c1',O,_⟩:=an _ (Y2 _ _);obtain⟨uq,ur,_,_⟩:=kP _ O;refine Dy ?_;intro w2 cw;rw[<-cw]at an;refine B' ?_;intro q0 q1 q3 s0 s1 cH eK cU fH eX gr;clear hK h I aw bg O cw an cH eK hk hq kP;unfold ATree.ptr at gm ⊢;obtain⟨RA,E⟩:=zX (r.any (λx=>!Sb x))
 rw[<-E]at aF;have No:=lh E;clear E;rcases o with rfl|rfl|rfl;rotate_left
 rotate_left
 cases st;rotate_left
 .exact V3
 all_goals
  have hn0:0<q+1:=O'
  have cG:1<=q+1:=O'
  have Gb:2<=cp:=by have:=gA.o;rw[<-HQ.o]at this;omega
  have iY:(1:Int)<=((q+1:Nat):Int):=O'
  go_enter Tryz.func71,Tryz.ntmps71
  go_wp2_with fail
  rw[<-fH.o];clear kW c1' kX jY kY uq ur;obtain⟨l3,l0,_,_⟩:=nj.o w2 eX.o
  have F:=Zsl ATree.ptr (λx=>!Sb x) (Below w2.heap.size w2) (some ⟨g,1,none⟩) (cp-1) r w2 (by rw[<-HQ.o];omega) (by rw[<-HQ.o];omega)
   (λi y hy=>⟨g,1,rfl,λw1 h=>((nj.o w1 (eX.o.trans (h.mono eX.o.size))).2.2.2 i y hy).1⟩)
   (fun u hu w1 h => by
    obtain⟨i,hi⟩:=List.getElem?_of_mem hu;exact(Zjh w1 B u ((nj.o w1 (eX.o.trans (h.mono eX.o.size))).2.2.2 i u hi).2).mono λe w2 ⟨o,h2⟩=>⟨o,by rw[h2];exact h⟩)
   (Y2 _ _)
  rw[<-HQ.o,<-No.o]at F;have U:=lh F;clear F l3 l0;refine U.o.mono ?_;rintro e w3⟨rfl,p⟩;have aX:=p;obtain⟨r0,r1,r3,u0,u1,X,Y⟩:=cU.o w3 p;have fc:=lh p;have gy:=lh X;have ms:=lh Y;clear aX p X Y q0 q1 q3 s0 s1;clear U;cases RA;rotate_left
  .go_wp2;go_ret;exact⟨by rw[aF.o];rfl,gy.o⟩
  go_wp2_with fail
  refine Zrz ?_;intro w9 fT;go_wp2;go_ret;exact⟨by rw[aF.o];rfl,fT.o⟩
theorem Zdd{B m:Nat}(hK:Sv B m)(a:ATree)(w:World)(st ins:Bool)(h:EIn B m a w){x:ATree}{r:List ATree}(p:a.kind=24)(hk:a.kids=x::r):Tl B a w st ins:=by
 have J:qB a st ins=if x.kind==23&&Ka st x.text then 5 else rx a.kids st ins:=by
  obtain⟨b,v,k,t,n,ks⟩:=a;simp only[ATree.kind,ATree.kids]at p hk;subst p;subst hk;rw[qB.eq_def];rfl
 refine C0 ?_;intro iV gm code aw;rw[<-aw];rw[J]at aw;have aF:=lh aw;have an:=Um w B a st ins h.t;rw[p]at an;clear p;refine Znx ?_;intro g cp cr eu kP nj q hq;rw[<-hq]at cr nj kP;refine Znw ?_;intro HQ yj tx bg;rw[<-bg]at an;try rw[<-bg]at aF
 have eY:=lh bg;unfold EW at an;obtain⟨kX,jY,kY,kW,c1',O,_⟩:=an _ (Y2 _ _);obtain⟨uq,ur,_,_⟩:=kP _ O;refine Dy ?_;intro w2 cw;rw[<-cw]at an;refine B' ?_;intro q0 q1 q3 s0 s1 cH eK cU fH eX gr;clear hK h J aw bg O cw an cH eK hk hq kP;unfold ATree.ptr at gm ⊢;have hn0:0<q+1:=O'
 have iY:(0:Int)<((q+1:Nat):Int):=O'
 go_enter Tryz.func71,Tryz.ntmps71
 go_wp2_with fail
 rw[<-fH.o];clear kW c1' kX jY kY uq ur;obtain⟨l3,l0,E,_⟩:=nj.o w2 eX.o;have x0:=E.c0;have u:=E.c1;obtain⟨y,U⟩:=zX x.text
 obtain⟨F,X⟩:=zX x.kind
 rw[<-U]at u aF;rw[<-X]at x0 aF;clear U X E l0 l3;have rJ:=lh (Z6n w2.drew st ins y);obtain⟨bf,Y⟩:=zX (Ka st y)
 rw[<-Y]at rJ aF;clear Y;by_cases I:F=23
 .subst I;refine Z8 [0,2,4,6,8,10,12,14,16,18,20] [11,12] (λW=>vC W w.heap.size 0 (.bool st)∧vC W w.heap.size 1 (.bool ins)∧vC W x.b 0 (vI 23)∧vC W x.b 1 (.string y)) ⟨q0,q1,x0,u⟩ λ_=>?_;refine dW ?_
  iterate 11
   refine dV ?_
  refine Z0 ?_;go_wp2_with fail
  refine Zsd ?_;clear q0 q1 q3 s0 s1;intro w3 r0 r1 r3 u0 u1 fc gy ms;cases bf;rotate_left
  .go_wp2;go_ret;exact⟨by rw[aF.o];rfl,gy.o⟩
  exact Ztr
 .have B8:(F==23)=false:=by simpa using I
  rw[B8,Bool.false_and]at aF;clear I;refine Z8 [0,2,4,6,8,10,12,14,16,18,20] [11,12] (λW=>vC W w.heap.size 0 (.bool st)∧vC W w.heap.size 1 (.bool ins)∧vC W x.b 0 (vI F)∧vC W x.b 1 (.string y)) ⟨q0,q1,x0,u⟩ λ_=>?_;refine dW ?_
  iterate 11
   refine dV ?_
  refine Z0 ?_;have mq:w2.drew.cell? ⟨w.heap.size,0,none⟩=some (.bool st):=q0;have jw:w2.drew.cell? ⟨w.heap.size,1,none⟩=some (.bool ins):=q1;have OQ:w2.drew.cell? ⟨w.heap.size+1,0,none⟩=some (vP a.b):=q3;have EZ:Hid (TreeAt w2.drew B a):=lh (gr.o.keep λk _ _=>rfl);have Z:=lh eX.o.drew;clear q0 q1 q3 s0 s1 x0 u;go_wp2_with fail
  refine(gm.o w2.drew EZ.o).mono ?_;rintro e w9⟨rfl,iN⟩;have fT:=lh ((Z.o).trans (iN.mono (Z.o).size));clear iN;go_wp2;go_ret;exact⟨by rw[aF.o];rfl,fT.o⟩
theorem Zd9{B m:Nat}(hK:Sv B m)(a:ATree)(w:World)(st ins:Bool)(h:EIn B m a w){x:ATree}{r:List ATree}(o:a.kind=34)(hk:a.kids=x::r):Tl B a w st ins:=by
 have y:qB a st ins=if st&&x.kind==23 then 1 else rx a.kids st ins:=by
  obtain⟨b,v,k,t,n,ks⟩:=a;simp only[ATree.kind,ATree.kids]at o hk;subst o;subst hk;rw[qB.eq_def];rfl
 refine C0 ?_;intro iV gm code aw;rw[<-aw];rw[y]at aw;have aF:=lh aw;have an:=Um w B a st ins h.t;rw[o]at an;clear o;refine Znx ?_;intro g cp cr eu kP nj q hq;rw[<-hq]at cr nj kP;refine Znw ?_;intro HQ yj tx bg;rw[<-bg]at an;try rw[<-bg]at aF
 have eY:=lh bg;unfold EW at an;obtain⟨E,F,I,J,c1',O,_⟩:=an _ (Y2 _ _);obtain⟨U,X,Y,_⟩:=kP _ O;have p:=Y.c0;obtain⟨Z,oh⟩:=zX x.kind
 rw[<-oh]at p aF;clear oh Y;refine Dy ?_;intro w2 cw;rw[<-cw]at an;refine B' ?_;intro q0 q1 q3 s0 s1 cH eK cU fH eX gr;clear hK h y aw bg O cw an cH eK hk hq kP;unfold ATree.ptr at gm ⊢;have hn0:0<q+1:=O'
 have iY:(0:Int)<((q+1:Nat):Int):=O'
 by_cases u:Z=23
 .subst u;cases st
  .go_enter Tryz.func71,Tryz.ntmps71
   go_wp2_with fail
   rw[<-fH.o];clear J c1' E F I U X p;exact Aaa
  .exact V3
 .have B8:(Z==23)=false:=by simpa using u
  rw[B8,Bool.and_false]at aF;clear u;cases st
  all_goals
   go_enter Tryz.func71,Tryz.ntmps71
   go_wp2_with fail
   rw[<-fH.o];clear J c1' E F I U X p;refine(gm.o w2 gr.o).mono ?_;rintro e w9⟨rfl,iN⟩;have fT:=lh ((eX.o).trans (iN.mono (eX.o).size));clear iN;go_wp2;go_ret;exact⟨by rw[aF.o];rfl,fT.o⟩
theorem Zeo{B m:Nat}(hK:Sv B m)(a:ATree)(w:World)(st ins:Bool)(h:EIn B m a w)(g:a.kind=6):Tl B a w st ins:=by
 have y:qB a st ins=if Lx a false then 9 else rx a.kids st ins:=by
  obtain⟨b,v,k,t,n,ks⟩:=a;simp only[ATree.kind]at g;subst g;rw[qB.eq_def];rfl
 refine C0 ?_;intro iV gm code aw;rw[<-aw];rw[y]at aw;have aF:=lh aw;have an:=Um w B a st ins h.t;rw[g]at an;clear g;have u:=lh (λW (t:TreeAt W B a)=>Za5 W B a st ins false t h.mx);obtain⟨tx,o⟩:=zX a.text
 rw[<-o]at an;try rw[<-o]at aF
 have eY:=lh o;unfold EW at an;obtain⟨J,O,U,X,c1',Y,_⟩:=an _ (Y2 _ _);refine Dy ?_;intro w2 cw;rw[<-cw]at an;refine B' ?_;intro q0 q1 q3 s0 s1 cH eK cU fH eX gr;clear hK h y aw o Y cw an cH eK;unfold ATree.ptr at gm ⊢;obtain⟨Z,E⟩:=zX (Lx a false)
 rw[<-E]at u aF;clear E;unfold ATree.ptr at u;go_enter Tryz.func71,Tryz.ntmps71
 go_wp2_with fail
 rw[<-fH.o];clear X c1' J O U;refine(u.o w2 gr.o).mono ?_;rintro e w3⟨rfl,p⟩;have aX:=p;obtain⟨r0,r1,r3,u0,u1,F,I⟩:=cU.o w3 p;have fc:=lh p;have gy:=lh F;have ms:=lh I;clear aX p F I q0 q1 q3 s0 s1;cases Z;rotate_left
 .simp only[if_true];go_wp2;go_ret;exact⟨by rw[aF.o];rfl,gy.o⟩
 simp only[Bool.false_eq_true,if_false];exact Ztr
theorem Zdv{B m:Nat}(hK:Sv B m)(a:ATree)(w:World)(st ins:Bool)(h:EIn B m a w)(g:a.kind=10):Tl B a w st ins:=by
 have p:qB a st ins=if ins then rx a.kids st ins else 6:=by
  obtain⟨b,v,k,t,n,ks⟩:=a;simp only[ATree.kind]at g;subst g;rw[qB.eq_def];rfl
 refine C0 ?_;intro iV gm code aw;rw[<-aw];rw[p]at aw;have aF:=lh aw;have an:=Um w B a st ins h.t;rw[g]at an;clear g;obtain⟨tx,o⟩:=zX a.text
 rw[<-o]at an;try rw[<-o]at aF
 have y:=lh o;unfold EW at an;obtain⟨kX,jY,kY,kW,c1',u,_⟩:=an _ (Y2 _ _);refine Dy ?_;intro w2 cw;rw[<-cw]at an;refine B' ?_;intro q0 q1 q3 s0 s1 cH eK cU fH eX gr;clear hK h p aw o u cw an cH eK;unfold ATree.ptr at gm ⊢;cases ins;·exact V3
 .exact ZT
theorem Zfj{B m:Nat}(hK:Sv B m)(a:ATree)(w:World)(st ins:Bool)(h:EIn B m a w)(h2:a.kind≠2)(h3:a.kind≠3)(h4:a.kind≠4)(o:a.kind≠13)(h5:a.kind≠5)(p:a.kind≠37)(u:a.kind≠6)(y:a.kind≠7)(E:a.kind≠8)(F:a.kind≠9)(I:a.kind≠10)(J:a.kind≠24)(O:a.kind≠34):Tl B a w st ins:=by
 have X:qB a st ins=rx a.kids st ins:=by
  obtain⟨b,v,k,t,n,ks⟩:=a;simp only[ATree.kind]at h2 h3 h4 o h5 p u y E F I J O;rw[qB.eq_def];simp only[h2,h3,h4,o,h5,p,u,y,E,F,I,J,O,or_self,if_false,ATree.kids]
 refine C0 ?_;intro iV gm code aw;rw[<-aw];rw[X]at aw;have aF:=lh aw;have an:=Um w B a st ins h.t;obtain⟨g,Y⟩:=zX a.kind
 rw[<-Y]at an h2 h3 h4 o h5 p u y E F I J O;obtain⟨tx,U⟩:=zX a.text
 rw[<-U]at an;try rw[<-U]at aF
 have eY:=lh U;unfold EW at an;obtain⟨kX,jY,kY,kW,c1',Z,_⟩:=an _ (Y2 _ _);refine Dy ?_;intro w2 cw;rw[<-cw]at an;refine B' ?_;intro q0 q1 q3 s0 s1 cH eK cU fH eX gr;clear hK h X aw U Z cw an cH eK;unfold ATree.ptr at gm ⊢;have n2:(g==2)=false:=Q6
 have n3:(g==3)=false:=Ro
 have n4:(g==4)=false:=QJ
 have OR:(g==13)=false:=by simpa using o
 have n5:(g==5)=false:=Rn
 have OS:(g==37)=false:=by simpa using p
 have n6:(g==6)=false:=by simpa using u
 have n7:(g==7)=false:=by simpa using y
 have n8:(g==8)=false:=by simpa using E
 have n9:(g==9)=false:=by simpa using F
 have DB:(g==10)=false:=by simpa using I
 have OT:(g==24)=false:=by simpa using J
 have OU:(g==34)=false:=by simpa using O
 clear Y h2 h3 h4 o h5 p u y E F I J O;exact ZT
theorem Zwy{q:Srt}{l:List Tree}(h:Wf q l):VA l:=by
 induction h<;>simp only[VA,WT,and_true,List.length_cons,List.length_nil]at * <;>(repeat' apply And.intro)<;>first
  |assumption
  |trivial
  |(constructor<;>intros<;>omega)
theorem Zac{text:ByteArray}{t:Tree}(h:xG text=.ok t):WT t∧t.many<=1500:=by
 obtain⟨l,g,rfl,m⟩:=Z79 h;exact⟨⟨Ar.any Pa,Zwy g⟩,m⟩
def Zgi(w:World)(r:Except (Int×Int) Tree)(e:Ending)(w':World):Prop:=
 Below w.heap.size w w'∧match r with
 | .ok t=>∃a,e=.returned (.tuple #[vP a.b,.bool (t.kind==1)])∧Got w w.heap.size w' a t
 | .error _=>e=.returned (.tuple #[.pointer none,.bool false])
theorem Zkc{a:ATree}{t:Tree}(h:a.tree=t):t.kind=a.kind:=by subst h;cases a;rfl
theorem Za7(w:World)(text:ByteArray)(F:Words w)(I:B7 w w.heap.size) :
 Calls Tryz.prog 4 #[.string text] w (Zgi w (xG text)):=by
 have g:=lh (Zel w text F I);obtain⟨r,hr⟩:=zX (xG text)
 rw[<-hr]at g ⊢;clear hr F I;unfold Zgi;cases r with
 | error x =>
   obtain⟨c,p⟩:=x;go_enter Tryz.func4,Tryz.ntmps4
   go_wp2_with fail
   refine g.o.mono ?_;rintro e w1⟨hb,x,rfl,hx⟩;have E:=lh hb;have O:x≠.nilIface:=by
    rcases hx with⟨_,rfl⟩|⟨q,_,hx⟩;·simp
    .obtain⟨_,rfl,_⟩:=hx;simp
   obtain⟨T,y,rfl⟩:∃T y,x=.iface T y:=by
    exact Zt6
   clear hb hx O g;go_wp2_with fail
   refine Z8 [0,2,4,6,8,10,12,14,16,18,20,22,24,26,28] [15] (λ_=>True) trivial λ_=>?_;refine dW ?_
   iterate 15
    refine dV ?_
   refine Z0 ?_;go_wp2;go_ret2
   exact⟨E.o.drew,rfl⟩
 | ok t =>
   go_enter Tryz.func4,Tryz.ntmps4
   go_wp2_with fail
   refine g.o.mono ?_;rintro e w1⟨hb,a,rfl,m⟩;have c0:=m.at'.c0;have hk:=Zkc m.tree;obtain⟨U,J⟩:=zX a.kind
   rw[<-J]at hk c0;have X:=lh hk;have E:=lh hb;have u:=lh m;clear hb m g hk J;go_wp2_with fail
   refine Z8 [0,2,4,6,8,10,12,14,16,18,20,22,24,26,28] [15] (λW=>vC W a.b 0 (vI U)) c0 λ_=>?_;refine dW ?_
   iterate 15
    refine dV ?_
   refine Z0 ?_;go_wp2;go_ret2
   exact⟨E.o.drew,a,by rw[X.o];rfl,u.o.tree,u.o.at'.keep λk _ _=>rfl,u.o.nodup,u.o.new⟩
theorem Zch{l:List ATree}{n:Nat}(h:l.length=n+1):∃x r,l=x::r:=by
 match l,h with
 |x::r,_=>exact⟨x,r,rfl⟩
theorem Z94{l:List ATree}{n:Nat}(h:l.length=n)(hn:2<=n):∃x r,l=x::r∧1<=r.length:=by
 match l,h with
 |x::r,h=>exact⟨x,r,rfl,by simp at h;omega⟩
 | [],h=>simp at h;omega
theorem Zlj(B:Nat):∀m,Zv1 B m:=by
 intro m;induction m with
 |zero=>intro a w st ins p;obtain⟨b,v,k,t,n,ks⟩:=a;simp[ATree.many]at p
 | succ m U =>
   intro a w st ins p F X Y;have g:Sv B m:=Zgz U;have o:=F.self;have h:EIn B m a w:=⟨p,F,X,Y⟩
   by_cases Z:a.kind=2∨a.kind=3∨a.kind=4;·exact Zks g a w st ins h Z
   by_cases u:a.kind=13
   .obtain⟨x,r,hk⟩:=Zch (o.one (.inl u));exact Zg6 g a w st ins h u hk
   by_cases h5:a.kind=5∨a.kind=37
   .obtain⟨x,y,hk⟩:=Zta (o.two O');exact Zhy g a w st ins h h5 hk
   by_cases I:a.kind=6;·exact Zeo g a w st ins h I
   by_cases h7:a.kind=7∨a.kind=8∨a.kind=9
   .obtain⟨x,r,hk,hr⟩:∃x r,a.kids=x::r∧1<=r.length:=by
     by_cases h:a.kind=7
     .rcases o.if' h with h|h;·exact Z94 h (Y0 _)
      .exact Z94 h O'
     .exact Z94 (o.two O') (Y0 _)
    exact Zfu g a w st ins h h7 hk hr
   by_cases J:a.kind=10;·exact Zdv g a w st ins h J
   by_cases O:a.kind=24
   .obtain⟨x,r,hk⟩:=Zch (o.two O');exact Zdd g a w st ins h O hk
   by_cases E:a.kind=34
   .obtain⟨x,r,hk⟩:=Zch (o.one (.inr E));exact Zd9 g a w st ins h E hk
   exact Zfj g a w st ins h O' O' O' u O' O' I O' O' O' J O E
theorem Zb4(w:World)(B:Nat)(a:ATree)(st ins:Bool)(p:TreeAt w B a)(O:WA a)(u:a.many<274877906944) :
 Calls Tryz.prog 11 #[a.ptr,.bool st,.bool ins] w λe w'=>e=.returned (df (LW a st ins))∧Below w.heap.size w w':=by
 have o:=lh (λW (h:TreeAt W B a)=>WN W B a h);obtain⟨sb,g⟩:=zX ((st||Zj a))
 obtain⟨s0,U⟩:=zX (Zj a)
 have kB:=lh (λW (h:TreeAt W B a)=>Za5 W B a sb ins true h u);have gm:=lh (λW (h:TreeAt W B a)=>Zgz (Zlj B a.many) a W sb ins O' (λk hk=>O.kid hk) u h);have X:LW a st ins=if Lx a true then 9 else rx a.kids sb ins:=by unfold LW;rw[g]
 rw[X];obtain⟨SB,Y⟩:=zX (Lx a true)
 obtain⟨RK,Z⟩:=zX (rx a.kids sb ins)
 rw[<-Y]at kB ⊢;rw[<-Z]at gm ⊢;rw[<-U]at o g;obtain⟨ev,y⟩:=zX (df (if SB then 9 else RK))
 rw[<-y];have ti:=lh y;have m:Below w.heap.size w (w.alloc (.cells #[.bool sb,.bool ins] 91)):=(Y2 _ _).alloc (Y0 _) _;have E:(w.alloc (.cells #[.bool sb,.bool ins] 91)).cell? ⟨w.heap.size,0,none⟩=some (.bool sb):=Pg
 have F:(w.alloc (.cells #[.bool sb,.bool ins] 91)).cell? ⟨w.heap.size,1,none⟩=some (.bool ins):=Pg
 have be:(w.alloc (.cells #[.bool sb,.bool ins] 91)).heap.size=w.heap.size+1:=Pg
 have HB:=lh m;have HT:=lh p;obtain⟨w1,I⟩:=zX (w.alloc (.cells #[.bool sb,.bool ins] 91))
 have nW:=lh I;rw[<-I]at be E F m;have J:∀W,Below w1.heap.size w1 W->vC W w.heap.size 0 (.bool sb)∧vC W w.heap.size 1 (.bool ins)∧Below w.heap.size w W∧TreeAt W B a:=λW h=>by
  have h2:=m.trans (h.mono m.size);exact⟨(Yb (h.block w.heap.size O')).trans E,(Yb (h.block w.heap.size O')).trans F,h2,p.bel h2⟩
 obtain⟨q0,q1,cH,Kb⟩:=J w1 (Y2 _ _);have cU:=lh J;have De:=lh Kb;have eX:=lh cH;have cN:∀(K:Prop),K->K:=λ_ h=>h;clear p O u X Y Z U y m be E F I J cH Kb cN;unfold ATree.ptr at o kB gm ⊢;cases st
 .rw[Bool.false_or]at g;subst g;go_enter Tryz.func11,Tryz.ntmps11
  go_wp2_with fail
  refine(o.o w HT.o).mono ?_;rintro e w'⟨rfl,ke⟩;rw[ke];clear ke w' o;exact XR
 .rw[Bool.true_or]at g;subst g;go_enter Tryz.func11,Tryz.ntmps11
  exact XR
section
variable {C:RCtx}{M M1:MRep}{w W:World}{s:MSt}{B:Nat}{a:ATree}{sc vr:Int}{st:Bool}{d:Nat}{D:DF}{b:Int}{fr:Frm}{A:Act}{K:Act->World->Prop}{Q:Exit->Act->World->Prop}
theorem Zol:kG []=Code.seq (kG [0]) (Code.seq (kG [1,0]) (Code.seq (kG [1,1,0]) (Code.seq (kG [1,1,1,0]) (Code.seq (kG [1,1,1,1,0]) (Code.seq (kG [1,1,1,1,1,0]) (Code.seq (kG [1,1,1,1,1,1,0]) (kG [1,1,1,1,1,1,1]))))))):=by kernel_rfl
theorem Zxi(g:C.Ok){k:Nat}(hk:C.w0.heap.size<=k):C.N k=-3:=by
 rw[RCtx.N_eq];cases h:S8 C.pl k with
 |none=>rfl
 | some v =>
   obtain⟨c,T,m⟩:=g.cells _ (Z8b h);have:=(Y1.1 m).1;simp only at this;omega
theorem Zhm{D:DF}{text:ByteArray}{sc:Int}{x:Int×Int}(h:xG text=.error x):P0 D text sc fr s=(s,.error (.thr (.say MK))):=by
 unfold P0 Ul;rw[h];rfl
theorem Zif{D:DF}{text:ByteArray}{sc:Int}{t:Tree}(h:xG text=.ok t):P0 D text sc fr s =
 if t.bare.check fr.strict false≠0 then(s,.error (.thr (.say MK)))
 else if fr.strict||t.bare.strict then S3 D t.bare s.next ⟨true,s.next⟩ (s.opens sc (-1) (-3))
 else if Sz s.H t.bare fr.vars (sc+1).toNat sc then(s,.error (.thr (.say MK)))
 else S3 D t.bare sc ⟨false,fr.vars⟩ s:=by
 unfold P0 Ul;rw[h];simp only;split;·rfl
 split;·rfl
 split<;>rfl
theorem EvS.box(h:EvS C M w st vr M1 W s)(i:Nat){x:Value}{st':Bool}{vr':Int}(he:(#[Value.bool st,Value.int .i64 vr]:Array Value).setIfInBounds i x=#[.bool st',vI vr']):EvS C M w st' vr' M1 (W.setCell ⟨w.heap.size,i,none⟩ x) s:=by
 obtain⟨m,o,g⟩:=h.lf.put h.mat h.fr Pa Pa i x;rw[he]at g;exact⟨m,o,g,Lo.beside (c':=#[]) (T':=55) h.lr (show w.heap.size+1≠w.heap.size by omega) i x⟩
theorem Zbz(g:TreeAt W B a)(m:∀k∈a.blocks,k≠w.heap.size)(i:Nat)(x:Value):TreeAt (W.setCell ⟨w.heap.size,i,none⟩ x) B a:=
 g.keepB λk hk=>Y8 _ _ _ _ (m k hk)
theorem Zu9{x:Er}{ev:Value}(g:EvS C M w st vr M1 W s)(he:ak C M1 W x ev){s1:MSt}(hs:s1=s) :
 al C M w (s1,.error x) (.returned (.tuple #[.agg #[vI 0,vI 0,.string ⟨#[]⟩],ev])) (((W.setCell ⟨w.heap.size+1,0,none⟩ (vI 0)).setCell ⟨w.heap.size+1,1,none⟩ (vI 0)).setCell ⟨w.heap.size+1,2,none⟩ (.string ⟨#[]⟩)):=by
 subst hs;obtain⟨m,o,p⟩:=g.lr.ret (x':=(vI 0)) (y':=(vI 0)) (z':=.string ⟨#[]⟩) g.mat g.fr;exact⟨M1,m,o,⟨0,0,⟨#[]⟩⟩,ev,rfl,p _ _ he⟩
theorem Zct(hW:Words C.w0)(hL:B7 C.w0 C.w0.heap.size)(hC:C.Ok)(cZ:Dl C D b)(hD:DH D b)(h:MAt C M w s)(hI:Inv s (d+13601))(hA:FAt s sc fr)(hb:b<=s.steps)(hs:s.steps<=20000)(text:ByteArray) :
 Calls Tryz.prog 143 #[vP C.mb,.string text,vI sc,.agg #[.bool fr.strict,vI fr.vars]] w λe w'=>al C M w (P0 D text sc fr s) e w':=by
 obtain⟨g,qY⟩:=fr;obtain⟨u,lf,lr⟩:=Zld h ⟨g,qY⟩;unfold frO vO at u lf lr;dsimp only at u lf lr ⊢
 obtain⟨z,hz⟩:=zX ((w.alloc (.cells #[.bool g,vI qY] 63)).alloc (.cells #[vI 0,vI 0,.string ⟨#[]⟩] 55))
 rw[<-hz]at u lf lr;have I:=h.below u;have Gc:EvS C M w g qY M z s:=⟨I,.of_below u,lf,lr⟩
 have F:=lh (Zel z text (hW.below I.old) ((hL.keep λk hk=>I.old.block k hk).mono I.old.size));have HS:=lh Gc;have HZ:=lh hz;have bT:=Gc.size;have HC:=lh hC;have iX:=lh cZ;have HD:=lh hD;have HI:=lh hI;have HA:=lh hA;have HB:=lh (And.intro hb hs);have HO:=lh (Y4 h.old.size u.size);clear hW hL hC cZ hD h hI hA hb hs u lf lr I Gc hz;obtain⟨R,m⟩:=zX (P0 D text sc ⟨g,qY⟩ s)
 rw[<-m];cases hpt:xG text with
 | error xe =>
   rw[Zhm hpt]at m;have eR:=lh m;clear m;rw[hpt]at F;refine Zv0 ?_;conv=>arg 2;whnf
   go_wp2_with fail
   rw[<-HZ.o];refine F.o.mono ?_;rintro e w1⟨J,x,rfl,hx⟩;obtain⟨T,y,rfl⟩:∃T y,x=.iface T y:=by
    exact Zt6
   have Dh:=lh (HS.o.bel J);clear J hx F;exact WW
 | ok t =>
   rw[Zif hpt]at m;rw[hpt]at F;obtain⟨xx,Gd⟩:=Zac hpt;have Np:=lh (show WT t from xx);have ue:Ul text=some t.bare:=by unfold Ul;rw[hpt]
   obtain⟨hst,o,-⟩:=Za1 ue;obtain⟨n,hn⟩:=zX t.bare
   rw[<-hn]at hst o m;have HN:=lh (And.intro hn (And.intro hst o));obtain⟨O,uv⟩:=zX (n.check g false)
   rw[<-uv]at m;have mQ:=lh m;clear m;have Ge:=lh uv;clear xx Gd ue hst o hn uv hpt;refine Zv0 ?_;rw[Zol];refine dh ?_;intro K HK;go_wp2_with fail
   rw[<-HZ.o];refine HK.o _ _ ?_;clear HK K;refine dh ?_;intro K HK;go_wp2_with fail
   refine F.o.mono ?_;rintro e w1⟨J,a,rfl,U⟩;have ul:=HS.o.bel J;have fy:∀k∈a.blocks,z.heap.size<=k:=λk hk=>(U.new k hk).1;have fp:a.free M:=λk hk=>HS.o.mat.fresh (fy k hk);have dw:∀k∈a.blocks,k≠w.heap.size:=λk hk e=>by have:=fy k hk;omega
   have CR:a.nt C.N=n:=by
    rw[HN.o.1,<-U.tree];exact Zk1 a λk hk=>Zxi HC.o (Y4 HO.o (fy k hk))
   have ni:=U.at';have oL:WA a:=Zqd a (by rw[U.tree];exact Np.o);have hst:=HN.o.2.1;have o:=HN.o.2.2;rw[<-CR]at hst o;have dj:a.many<=1500:=by rw[SV,Tw]at o;exact o
   have iO:a.kids.length<=1500:=PJ
   have AX:O=LW a g false:=by rw[Ge.o,<-CR,Zo7]
   have sS:=Zb4 w1 z.heap.size a g false ni oL O';rw[<-AX]at sS;simp only[ATree.ptr]at sS;have Kc:=lh sS;have dS:=lh ul;have ym:=lh CR;have iu:=lh (And.intro hst (And.intro o (And.intro dj iO)));have Nq:=lh ni;have lV:=lh fp;have th:=lh dw;obtain⟨f0,f1⟩:=ul.lf.two;clear J U ul fy fp dw CR ni oL hst o dj iO AX sS F;go_wp2_with fail
   refine HK.o _ _ ?_;clear HK K;refine dh ?_;intro K HK;go_wp2_with fail
   refine Kc.o.mono ?_;rintro e w2⟨rfl,au⟩;have cD:=lh (dS.o.bel au);have gr:=lh (Nq.o.bel au);clear au Kc f0 f1;obtain⟨f0,f1⟩:=cD.o.lf.two;have y0:=cD.o.lf.fz 0;by_cases gB:O=0
   .have E:=mQ.o;rw[Y3 (by simp[gB])]at E;have gA:=lh E;clear E mQ;rw[show df O= .nilIface by rw[gB];rfl];go_wp2_with fail
    refine HK.o _ _ ?_;clear HK K;cases g
    .cases hisa:Zj a
     .have Gf:=lh hisa;have rN:=lh (show n.strict=false by rw[<-ym.o,ZJ,hisa]);clear hisa;refine dh ?_;intro K HK;go_wp2_with fail
      refine HK.o _ _ ?_;clear HK K;refine dh ?_;intro K HK;have p:=WN w2 z.heap.size a gr.o;rw[Gf.o]at p;simp only[ATree.ptr]at p;have X:=lh p;clear p;go_wp2_with fail
      refine X.o.mono ?_;rintro e w3⟨rfl,Y⟩;rw[Y];clear Y w3 X;go_wp2_with fail
      refine HK.o _ _ ?_;clear HK K f0 f1 y0;have py:=lh (cD.o.box 0 (st':=false) (vr':=qY) rfl);have ml:=lh (Zbz gr.o th.o 0 (.bool false));clear cD gr;generalize w2.setCell ⟨w.heap.size,0,none⟩ (.bool false)=W6 at py ml ⊢;obtain⟨pb,cb,co,cr,eu,dc⟩:=jm.slice ml.o.rowOf;obtain⟨qb,mu⟩:=zX a.kids.length
      rw[<-mu]at co cr;have c3:=ml.o.c3;rw[co]at c3;refine XB ?_;intro pg W7 oP xi mm hnm aK;rw[aK]at hnm;simp only[ATree.ptr,ATree.b]at hnm;have rM:=lh hnm;have lp:=lh (show EvS C M w false qY M W7 s by rw[oP];exact py.o.bel pg);have Dc:=lh (show TreeAt W7 z.heap.size a by rw[oP];exact ml.o.bel pg);have yl:=lh oP;clear co cr eu dc mu pg oP xi hnm aK mm;refine dh ?_;intro K HK;go_wp2_with fail
      rw[<-yl.o];refine rM.o.mono ?_;rintro e w8⟨v8,rfl,uM,pA⟩;obtain⟨p8,n8,c8,rfl⟩:=uM.slice;have xl:=lh (lp.o.bel pA);have BF:=lh (Dc.o.bel pA);have GP:=lh uM;clear pA uM rM c3;go_wp2_with fail
      refine HK.o _ _ ?_;clear HK K;refine wp_seq_k (λK hK=>?_);have HK:=lh hK;clear hK;have am:R=if Sz s.H n qY (sc+1).toNat sc then(s,.error (.thr (.say MK)))else S3 D n sc ⟨false,qY⟩ s:=by rw[gA.o];simp[rN.o]
      have bD:=lh am;clear am;refine Zoo xl.o HI.o.wf HA.o.anc HA.o.vlo BF.o iu.o.2.2.2 GP.o ⟨rfl,⟨rfl,rfl,rfl,rfl,rfl,rfl,trivial⟩,rfl⟩ (λA9 W9 Z CJ kR=>?_) (λy a' w' Z h1 h2 h3=>bodyPost_ret h1 h2 ?_)
      .refine HK.o _ _ ?_;clear HK K;refine Zmd (d:=d) HC.o iX.o HD.o (xl.o.bel kR) (BF.o.bel kR) lV.o iu.o.1 iu.o.2.1 (HI.o.less O') ⟨HA.o.root,HA.o.lo,HA.o.hi,HA.o.anc,HA.o.vlo⟩ HB.o.1 HB.o.2 CJ (λy a' w' h1 h2 h3=>bodyPost_ret h1 h2 ?_) (λ_ _ d _ _ h=>by cases d<;>exact h);rw[ym.o]at Z h3;rw[bD.o,Y3 (by rw[Z];simp)];exact h3
      .rw[ym.o]at Z;rw[bD.o,Y5 Z];exact h3
     .have Gf:=lh hisa;have rN:=lh (show(false||n.strict)=true by rw[<-ym.o,ZJ,hisa];rfl);clear hisa;refine dh ?_;intro K HK;go_wp2_with fail
      refine HK.o _ _ ?_;clear HK K;refine dh ?_;intro K HK;have p:=WN w2 z.heap.size a gr.o;rw[Gf.o]at p;simp only[ATree.ptr]at p;have X:=lh p;clear p;go_wp2_with fail
      refine X.o.mono ?_;rintro e w3⟨rfl,Y⟩;rw[Y];clear Y w3 X;exact tq5
    .have rN:=lh (show(true||n.strict)=true from rfl);refine dh ?_;intro K HK;go_wp2_with fail
     refine HK.o _ _ ?_;clear HK K;refine dh ?_;intro K HK;exact tq5
   .have E:=mQ.o;rw[Y5 gB]at E;have eR:=lh E;clear E mQ;rw[show df O= .iface 34 (vI O) by unfold df;rw[Y3 gB]];have Dh:=cD;go_wp2_with fail
    refine HK.o _ _ ?_;clear HK K;refine wp_seq_k (λK hK=>?_);clear hK;conv=>arg 2;whnf
    exact WW
end
