import Derived.Test.YtkebnpemgkjpkaaGreatDoorJ24
set_option maxRecDepth 100000
set_option maxHeartbeats 20000000
set_option linter.all false
namespace Go.Proofs.YtkebnpemgkjpkaaGreatDoor
open Go Go.RowKit Go.Proofs.Tryz Tryz
def Zgh{st:Bool}{T:List kB}{k:Nat}{s:kB}(h:T[k]?=some s):SQ st (T.take k) (T.drop k)=if CP st s then 5 else if st&&Lib.containsS (T.take k) s then 9 else SQ st (T.take (k+1)) (T.drop (k+1)):=by
 obtain⟨hk,he⟩:=List.getElem?_eq_some_iff.1 h;rw[Yt hk,List.take_succ_eq_append_getElem hk,he];rfl
def Zp0(st:Bool)(t:kB)(ps:List kB)(bd:ATree)(K:Int):(if SR st t ps bd≠0 then SR st t ps bd else K) =
 if CP st t then 5 else if SQ st [] ps≠0 then SQ st [] ps else if(Sj bd).any (λs=>Lib.containsS ps s)then 9 else if Iw bd true then 9 else K:=by
 unfold SR;by_cases h1:CP st t=true;·simp only[if_pos h1];rfl
 simp only[if_neg h1];by_cases g:SQ st [] ps≠0;·simp only[if_pos g]
 simp only[if_neg g];by_cases m:(Sj bd).any (λs=>Lib.containsS ps s)=true;·simp only[if_pos m];rfl
 simp only[if_neg m];by_cases p:Iw bd true=true;·simp only[if_pos p];rfl
 simp only[if_neg p];rfl
def Zng{B m:Nat}(hK:Ub B m)(a:ATree)(w:kV)(st ins:Bool)(hm:a.many<=m+1)(eP:a.many<274877906944)(J:TreeAt w B a)(ps bd:ATree)(hk:a.kids=[ps,bd])(jY:∀k∈bd.kids,WA k) :
 kC 111 #[.agg #[.bool st,.bool ins],a.ptr] w λe w'=>e=.returned (vI (if SR (st||Zi bd) a.text (ps.kids.map ATree.text) bd≠0 then SR (st||Zi bd) a.text (ps.kids.map ATree.text) bd else ov bd.kids (st||Zi bd) true))/\kW w w':=by
 rw[Zp0];obtain⟨i0,hi,aC,bo,bQ⟩:=info_parts zg;have aT:ps∈a.kids/\bd∈a.kids:=QF
 have nH:a.many=ps.many+bd.many+1:=by
  obtain⟨b,v,k,t,n,ks⟩:=a;simp only[ATree.kids]at hk;subst hk;simp only[ATree.many,Ad];omega
 obtain⟨p,cp,hv,bU,ej⟩:=J.vOf;have ae:=J.rowOf;obtain⟨g,hp⟩:∃g,p=some ⟨g,0,none⟩:=by
  rcases Z4 ae with⟨_,h2⟩|⟨g,cap,h1,_⟩;·rw[hk]at h2;simp at h2
  .rw[hv]at h1;simp only[Value.slice.injEq]at h1;exact⟨g,h1.1⟩
 subst hp;have c3:w.cell? ⟨a.b,3,none⟩=some (.slice (some ⟨g,0,none⟩) 2 cp):=by rw[show(2:Nat)=a.kids.length by rw[hk];rfl,<-hv];exact J.c3
 have cx:=Zs ae (g:=g) PW (i:=0) (x:=ps.ptr) Re;have cy:=Zs ae (g:=g) PW (i:=1) (x:=bd.ptr) Re;have dF:2<=cp:=by rw[hk]at bU;exact bU
 unfold maxLen at ej;have Kn:=(Y9 ae g PW).2;have Bb:=J.kid aT.1;have Ko:=J.kid aT.2;obtain⟨p2,jR,xV,Gr,fQ⟩:=Bb.vOf;have p3:w.cell? ⟨ps.b,3,none⟩=some (.slice p2 ps.kids.length jR):=by rw[<-xV];exact Bb.c3
 have c1:=J.c1;have aX:=Zbd ps;have At:=Zbd bd;have qi:ps.kids.length<=9223372036854775807:=QP
 have rB:ps.kids.length<274877906944:=Px
 have mt:bd.kids.length<274877906944:=Px
 have C0:=lh xV;obtain⟨tx,bc⟩:=zX a.text
 rw[<-bc]at c1 ⊢;have il:=lh (λwr (h:TreeAt wr B bd)=>Z4c wr B bd h);obtain⟨ib,ei⟩:=zX (Zi bd)
 rw[<-ei]at il ⊢;obtain⟨sb,aK⟩:=zX ((st||ib))
 rw[<-aK];clear ei;obtain⟨T,qo⟩:=zX (ps.kids.map ATree.text)
 rw[<-qo];obtain⟨P,hP⟩:=zX (bd.kids.filter vG)
 have As:Sj bd=P.map ATree.text:=by rw[hP];rfl
 rw[As];have Kp:∀x,x∈P->x∈bd.kids:=λx hx=>by rw[hP]at hx;exact(List.mem_filter.1 hx).1
 have vJ:P.length<=bd.kids.length:=Rl
 have hL:=λW (h:TreeAt W B bd)=>YU W B bd h Px;simp only[<-hP]at hL;obtain⟨HL,NI,rN,kn,gu⟩:=gp hL Kp (λW s=>Z78 W sb true s) (λW (h:TreeAt W B bd)=>Za8 W B bd sb true true h Px) (λW (h:TreeAt W B bd)=>hK bd W sb true Px jY Px h);obtain⟨bf,pq⟩:=zX (CP sb tx)
 obtain⟨RP,Gs⟩:=zX (SQ sb [] T)
 obtain⟨LB,pd⟩:=zX ((P.map ATree.text).any (λs=>Lib.containsS T s))
 obtain⟨SB,sT⟩:=zX (Iw bd true)
 obtain⟨RK,yc⟩:=zX (ov bd.kids sb true)
 rw[<-pq,<-Gs,<-pd,<-sT,<-yc];rw[<-sT]at kn;rw[<-yc]at gu;obtain⟨code,au⟩:∃c:Int,c=if bf then 5 else if RP≠0 then RP else if LB then 9 else if SB then 9 else RK:=⟨_,rfl⟩
 rw[<-au];obtain⟨aH,Kq,Kr,rr,iU⟩:=gp au pq Gs pd qo;have ao:∀W,kW w W->vC W a.b 3 (.slice (some ⟨g,0,none⟩) 2 cp)/\W.cell? ⟨g,0,none⟩=some ps.ptr/\W.cell? ⟨g,1,none⟩=some bd.ptr/\vC W ps.b 3 (.slice p2 ps.kids.length jR)/\vC W a.b 1 (.string tx)/\TreeAt W B ps/\TreeAt W B bd:=λW h=>
  ⟨(Yb (h.block a.b J.lt)).trans c3,(Yb (h.block g Kn)).trans cx,(Yb (h.block g Kn)).trans cy,(Yb (h.block ps.b Bb.lt)).trans p3,(Yb (h.block a.b J.lt)).trans c1,Bb.bel h,Ko.bel h⟩
 have eh:kW w (w.alloc (.cells #[.bool st,.bool ins] 89)):=(Y2 _ _).alloc (Y0 _) _;have ic:kW w (w.alloc (.cells #[.bool sb,.bool true] 89)):=(Y2 _ _).alloc (Y0 _) _;obtain⟨Z,_,O,_⟩:=ao _ eh;have cN:=lh ao;have tR:=lh eh;unfold ATree.ptr at gu kn HL cN O il ⊢;obtain⟨q,hq⟩:=zX ps.kids.length
 rw[<-hq]at cN qi Gr rB;have HQ:=lh hq;clear hK J hm eP hk jY aT nH hv bU ae c3 cx cy Bb Ko xV p3 c1 aX At bc qo hP As Kp hL pq Gs pd sT yc au ao eh hq;cases st;rw[Bool.false_or]at aK;subst aK;go_enter func111,ntmps111
 go_wp2_with fail
 refine(il.o _ (cN.o _ tR.o).2.2.2.2.2.2).mono ?_;rintro e w'⟨rfl,jW⟩;rw[jW];clear jW w' il;go_wp2_with fail
 rotate_left
 rw[Bool.true_or]at aK;have cE:=lh aK;clear aK il;go_enter func111,ntmps111
 go_wp2_with fail
 rw[show(w.alloc (.cells #[.bool true,.bool true] 89))=w.alloc (.cells #[.bool sb,.bool true] 89)from by rw[cE.o]];clear cE
 all_goals
  have d0:(w.alloc (.cells #[.bool sb,.bool true] 89)).cell? ⟨w.heap.size,0,none⟩=some (.bool sb):=PE
  have d1:(w.alloc (.cells #[.bool sb,.bool true] 89)).cell? ⟨w.heap.size,1,none⟩=some (.bool true):=PE
  have aZ:(w.alloc (.cells #[.bool sb,.bool true] 89)).heap.size=w.heap.size+1:=PE
  obtain⟨w1,dD⟩:=zX (w.alloc (.cells #[.bool sb,.bool true] 89))
  rw[<-dD]at d0 d1 aZ ic ⊢;obtain⟨_,_,_,_,c1,_,_⟩:=cN.o _ ic;have ul:∀W,kW w1 W->vC W w.heap.size 0 (.bool sb)/\vC W w.heap.size 1 (.bool true)/\kW w W/\w1.heap.size<=W.heap.size:=λW h=>
   ⟨(Yb (h.block w.heap.size Px)).trans d0,(Yb (h.block w.heap.size Px)).trans d1,ic.trans (h.mono ic.size),h.size⟩
  obtain⟨H1,yd,mB⟩:=ds ul ic dD;clear ul ic dD Z O;refine Z7 [0,2,4,6,8] [5] (λW=>vC W w.heap.size 0 (.bool sb)/\vC W w.heap.size 1 (.bool true)/\vC W a.b 1 (.string tx)) ⟨d0,d1,c1⟩ λ_=>?_;refine dU ?_
  iterate 5
   refine fa ?_
  refine Z0 ?_;go_wp2_with fail
  refine(rN.o w1.drew tx).mono ?_;rintro e w2⟨rfl,aA⟩;rw[<-Kq.o];have aN:Hid (kW w1 w2):=lh ((Y2 w1.heap.size w1).drew.trans aA);clear aA Kq d0 d1 c1;obtain⟨x0,x1,wt,cf⟩:=H1.o _ aN.o;obtain⟨Z,kx,O,k4,_,_,_⟩:=cN.o _ wt;have sS:=lh wt;clear wt;cases bf;rotate_left
  .go_wp2;go_ret;exact⟨by rw[aH.o];rfl,sS.o⟩
  go_wp2_with fail
  go_loopw [5,40] (λv i wr=>∃(k:Nat) (v':Value),v'=v/\k<=q/\i=(vI k)/\Hid (Zz wr w1.heap.size v' (T.take k))/\Hid (kW w1 wr)/\Hid (SQ sb (T.take k) (T.drop k)=RP)) (λ_ i _=>q-(intOf i).toNat)
  case atStart=>exact⟨0,_,rfl,Yh _,rfl,lh (Zz.nil _ _),aN,lh Kr.o.symm⟩
  case round=>
   obtain⟨k,v,rfl,hk,rfl,F,I,HR⟩:=hrel;clear aN sS;obtain⟨y0,y1,U,yb⟩:=H1.o _ I.o;obtain⟨Z,kx,O,k4,_,mU,lP⟩:=cN.o _ U;have fc:=lh U;by_cases bX:k<q
   .obtain⟨x,hx⟩:∃x,ps.kids[k]? =some x:=⟨_,Y6 QH⟩
    have ae:=mU.rowOf;rcases Z4 ae with⟨_,h2⟩|⟨g0,gA,gm,_⟩;·rw[<-HQ.o]at h2;omega
    have hp:p2=some ⟨g0,0,none⟩:=by
     have:=C0.o.symm.trans gm;simp only[Value.slice.injEq]at this;exact this.1
    subst hp;refine SE ?_;intro cx;unfold ATree.ptr at cx;have ey:=mU.kid (Yd hx);have c1:=ey.c1;have jn:=ey.lt;have se:T[k]?=some x.text:=by rw[iU.o,Yg,hx];rfl
    have aL:=Zgh (st:=sb) se;rw[HR.o]at aL;have cR:(T.take k).length=k:=by rw[List.length_take,iU.o,Ym,<-HQ.o];omega
    have dP:T.take k++[x.text]=T.take (k+1):=by
     exact WO
    obtain⟨X,ie⟩:=zX x.text
    rw[<-ie]at c1 aL dP;obtain⟨l,hl⟩:=zX (T.take k)
    rw[<-hl]at aL cR dP F;obtain⟨bp,Gt⟩:=zX (CP sb X)
    rw[<-Gt]at aL;obtain⟨cb,mf⟩:=zX (Lib.containsS l X)
    rw[<-mf]at aL;obtain⟨pv,nv,cv,rfl⟩:=F.o.slice;obtain⟨pS,tB,ff,yy⟩:=en mf Gt aL dP;clear ae gm hx ey se aL dP ie hl Gt mf mU lP U Z kx O k4;go_wp2_with fail
    refine Z7 [0,2,4,6,8] [5,6] (λW=>vC W w.heap.size 0 (.bool sb)/\vC W w.heap.size 1 (.bool true)/\vC W x.b 1 (.string X)) ⟨y0,y1,c1⟩ λ_=>?_;refine dU ?_
    iterate 5
     refine fa ?_
    refine Z0 ?_;go_wp2_with fail
    refine(rN.o wr.drew X).mono ?_;rintro e Y⟨rfl,bj⟩;rw[<-tB.o];have fX:kW wr Y:=(Y2 wr.heap.size wr).drew.trans bj;have HB3:=lh (I.o.trans (fX.mono yb));have qP:=lh (F.o.bel fX);have CS:vC Y x.b 1 (.string X):=(Yb (fX.block x.b jn)).trans c1;obtain⟨z0,z1,Bc,DA⟩:=H1.o _ HB3.o;have Be:=lh Bc;have NJ:x.b<Y.heap.size:=Y7 jn fX.size;clear bj fX tB y0 y1 c1 F I HR fc Bc;cases bp;rotate_left
    .go_wp2;go_ret;refine⟨?_,Be.o⟩;have h1:=ff.o;simp only[if_true]at h1;rw[aH.o,h1];rfl
    cases sb
    .have rS:=qP;unfold Zz at rS;clear pS
     go_wp2_with (at_builtin;go_must (refine wpList_append_lies _ rfl (.tmp 62) (.tmp 67) 27 rfl w1.heap.size 9 i0 (.string ByteArray.empty) 1 16 underlying27 hi aC bo bQ rfl Py (.slice pv nv cv) l.length (l.map Value.string) rfl (rS.o.alloc _) ⟨Y.heap.size,0,none⟩ 1 1 [.string X] rfl rfl (λj u hu=>cell_one_new Y _ _ j u hu) PH PF PA PF PF (Y.heap.size+1) PE ?_);intro g cap w4 aJ aw bZ fE;have HG:=lh aw;have HW:=lh aJ;clear aw aJ bZ fE)
     go_roundw
     case rel=>
      refine⟨k+1,_,rfl,by omega,by go_num,lh ?_,lh ?_,lh ?_⟩;·exact X'
      .exact WB
      .have h1:=ff.o;simp only[Bool.false_eq_true,if_false,Bool.false_and]at h1;exact h1.symm
     case measure=>simp[intOf];omega
    .have sJ:=lh (YC qP.o X);rw[<-pS.o]at sJ;clear pS;have rS:=qP;unfold Zz at rS;go_wp2_with fail
     refine sJ.o.mono ?_;rintro e w'⟨rfl,jW⟩;rw[jW];clear jW w' sJ;cases cb;rotate_left
     .go_wp2;go_ret;refine⟨?_,Be.o⟩;have h1:=ff.o;simp only[Bool.false_eq_true,if_false,Bool.and_self,if_true]at h1;rw[aH.o,h1];rfl
     go_wp2_with (at_builtin;go_must (refine wpList_append_lies _ rfl (.tmp 62) (.tmp 67) 27 rfl w1.heap.size 9 i0 (.string ByteArray.empty) 1 16 underlying27 hi aC bo bQ rfl Py (.slice pv nv cv) l.length (l.map Value.string) rfl (rS.o.alloc _) ⟨Y.heap.size,0,none⟩ 1 1 [.string X] rfl rfl (λj u hu=>cell_one_new Y _ _ j u hu) PH PF PA PF PF (Y.heap.size+1) PE ?_);intro g cap w4 aJ aw bZ fE;have HG:=lh aw;have HW:=lh aJ;clear aw aJ bZ fE)
     go_roundw
     case rel=>
      refine⟨k+1,_,rfl,by omega,by go_num,lh ?_,lh ?_,lh ?_⟩;·exact X'
      .exact WB
      .have h1:=ff.o;simp only[Bool.false_eq_true,if_false,Bool.and_false]at h1;exact h1.symm
     case measure=>simp[intOf];omega
   .have aR:k=q:=by omega
    subst aR;have cR:T.length=k:=by rw[iU.o,Ym,<-HQ.o]
    have bc:=F.o;rw[Ye Px]at bc;have NK:RP=0:=by
     have:=HR.o;rw[Ye Px,List.drop_of_length_le Px]at this;rw[<-this];rfl
    subst NK;have BS:=lh bc;obtain⟨pv,nv,cv,rfl⟩:=bc.slice;have C7:=lh lP;clear bc U mU lP F HR cR k4 kx Kr;go_wp2_with fail
    refine(HL.o wr C7.o).mono ?_;rintro e w5⟨v5,rfl,hZ,iC⟩;obtain⟨p5,rc,rfl,jh,mP,gC⟩:=hZ.slice;obtain⟨gI,Ks,N5,io⟩:=en (I.o.trans (iC.mono yb)) (BS.o.bel iC) hZ gC;obtain⟨zf,Au⟩:=zX wr.heap.size
    rw[<-Au]at N5;obtain⟨m2,eT⟩:=zX P.length
    have Eh:m2<=9223372036854775807:=by unfold maxLen at mP;omega
    rw[<-eT]at jh N5 vJ ⊢;have bT:=lh eT;clear hZ iC gC Au eT BS I fc;go_wp2_with fail
    go_loopw [78] (λi wr=>∃(k:Nat),k<=m2/\i=(vI k)/\Hid (Zz wr w1.heap.size (.slice pv nv cv) T)/\Hid (ll wr zf (.slice p5 m2 rc) P)/\Hid (kW w1 wr)/\Hid (∀x∈P.take k,Lib.containsS T x.text=false)) (λi _=>m2-(intOf i).toNat)
    case atStart=>exact⟨0,Yh _,rfl,Ks,N5,gI,lh PE⟩
    case round=>
     obtain⟨k,hk,rfl,F,NO,I,HF⟩:=hrel;clear Ks N5 gI;obtain⟨y0,y1,U,yb⟩:=H1.o _ I.o;obtain⟨Z,kx,O,k4,_,mU,lP⟩:=cN.o _ U;have fc:=lh U;by_cases bX:k<m2
     .obtain⟨x,hx⟩:∃x,P[k]? =some x:=⟨_,Y6 RB⟩
      obtain⟨g0,hp⟩:=io.o k x hx;subst hp;have cx:=NO.o.cell rfl hx;have ey:=lP.kid (NI.o x (Yd hx));have c1:=ey.c1;have sJ:=lh (YC F.o x.text);obtain⟨cb,mf⟩:=zX (Lib.containsS T x.text)
      rw[<-mf]at sJ;have pS:=lh mf;have HX:=lh hx;obtain⟨X,ie⟩:=zX x.text
      rw[<-ie]at c1 sJ;clear ey hx mf ie mU lP U Z kx O k4 y0 y1;go_wp2_with fail
      refine sJ.o.mono ?_;rintro e w'⟨rfl,jW⟩;rw[jW];clear jW w' sJ;cases cb
      .go_wp2;go_roundw
       case rel=>
        refine⟨k+1,by omega,by go_num,F,NO,I,lh ?_⟩;intro y hy;obtain⟨aX,re⟩:=List.getElem?_eq_some_iff.1 HX.o;rw[List.take_succ_eq_append_getElem aX,List.mem_append]at hy;rcases hy with hy|hy;·exact HF.o y hy
        .simp only[List.mem_singleton]at hy;rw[hy,re];exact pS.o.symm
       case measure=>simp[intOf];omega
      .go_wp2;go_ret;refine⟨?_,fc.o⟩;have h1:LB=true:=by
        rw[rr.o,List.any_eq_true];exact⟨x.text,List.mem_map.2 ⟨x,Yd HX.o,rfl⟩,pS.o.symm⟩
       rw[aH.o,h1];rfl
     .have aR:k=m2:=by omega
      subst aR;have h1:LB=false:=by
       rw[rr.o,List.any_eq_false];intro s hs;obtain⟨y,hy,rfl⟩:=List.mem_map.1 hs;have:=HF.o y (by rw[Ye (by rw[<-bT.o];exact Y0 _)];exact hy);simp[this]
      subst h1;have C7:=lh lP;clear mU lP U k4 kx HF F NO rr;go_wp2_with fail
      refine Z7 [0,2,4,6,8,10,12] [7,8] (λW=>vC W w.heap.size 0 (.bool sb)/\vC W w.heap.size 1 (.bool true)/\vC W a.b 3 (.slice (some ⟨g,0,none⟩) 2 cp)/\vC W g 1 (vP bd.b)) ⟨y0,y1,Z,O⟩ λ_=>?_;refine dU ?_
      iterate 7
       refine fa ?_
      refine Z0 ?_;go_wp2_with fail
      refine(kn.o wr.drew (C7.o.keep λk _ _=>rfl)).mono ?_;rintro e w7⟨rfl,js⟩;have jX:kW wr w7:=(Y2 wr.heap.size wr).drew.trans js;have xO:=lh (I.o.trans (jX.mono yb));obtain⟨z0,z1,wu,NL⟩:=H1.o _ xO.o;obtain⟨l3,_,ly,_,_,_,Bf⟩:=cN.o _ wu;have wv:=lh wu;have Gu:=lh Bf;clear js jX wu Bf y0 y1 Z O C7 I fc;cases SB;rotate_left
      .simp only[if_true];go_wp2;go_ret;exact⟨by rw[aH.o];rfl,wv.o⟩
      simp only[Bool.false_eq_true,if_false];go_wp2_with fail
      refine Z7 [0,2,4,6,8,10,12] [7,8] (λW=>vC W w.heap.size 0 (.bool sb)/\vC W w.heap.size 1 (.bool true)/\vC W a.b 3 (.slice (some ⟨g,0,none⟩) 2 cp)/\vC W g 1 (vP bd.b)) ⟨z0,z1,l3,ly⟩ λ_=>?_;refine dU ?_
      iterate 7
       refine fa ?_
      refine Z0 ?_;go_wp2_with fail
      refine(gu.o w7.drew (Gu.o.keep λk _ _=>rfl)).mono ?_;rintro e w8⟨rfl,jX⟩;have o9:Hid (kW w w8):=lh (wv.o.drew.trans (jX.mono wv.o.size));clear jX;go_wp2;go_ret;exact⟨by rw[aH.o];rfl,o9.o⟩
structure EIn(B m:Nat)(a:ATree)(w:kV):Prop where
 m:a.many<=m+1
 wa:WA a
 mx:a.many<274877906944
 t:TreeAt w B a
def Vd(B:Nat)(a:ATree)(w:kV)(st ins:Bool):Prop:=
 kC 72 #[.agg #[.bool st,.bool ins],a.ptr] w λe w'=>e=.returned (vI (mK a st ins))/\kW w w'
def EW(B:Nat)(a:ATree)(st ins:Bool)(g:Int)(tx:kB)(w W:kV):Prop:=
 vC W w.heap.size 0 (.bool st)/\vC W w.heap.size 1 (.bool ins)/\vC W (w.heap.size+1) 0 (vP a.b)/\
 vC W a.b 0 (vI g)/\vC W a.b 1 (.string tx)/\kW w W/\TreeAt W B a
def Zs1(w:kV)(B:Nat)(a:ATree)(st ins:Bool)(g:TreeAt w B a):∀W,Below ((w.alloc (.cells #[.bool st,.bool ins] 89)).alloc (.cells #[vP a.b] 22)).heap.size ((w.alloc (.cells #[.bool st,.bool ins] 89)).alloc (.cells #[vP a.b] 22)) W->EW B a st ins a.kind a.text w W:=by
 have m:kW w (w.alloc (.cells #[.bool st,.bool ins] 89)):=(Y2 _ _).alloc (Y0 _) _;have u:kW w ((w.alloc (.cells #[.bool st,.bool ins] 89)).alloc (.cells #[vP a.b] 22)):=m.alloc m.size _;have y:w.heap.size<(w.alloc (.cells #[.bool st,.bool ins] 89)).heap.size:=PE
 have I:((w.alloc (.cells #[.bool st,.bool ins] 89)).alloc (.cells #[vP a.b] 22)).heap.size=w.heap.size+2:=PE
 have F:((w.alloc (.cells #[.bool st,.bool ins] 89)).alloc (.cells #[vP a.b] 22)).cell? ⟨w.heap.size,0,none⟩=some (.bool st):=(Zc (by exact y)).trans PE;have b1:((w.alloc (.cells #[.bool st,.bool ins] 89)).alloc (.cells #[vP a.b] 22)).cell? ⟨w.heap.size,1,none⟩=some (.bool ins):=(Zc (by exact y)).trans PE;have b3:((w.alloc (.cells #[.bool st,.bool ins] 89)).alloc (.cells #[vP a.b] 22)).cell? ⟨w.heap.size+1,0,none⟩=some (vP a.b):=PE
 intro W h;have p:=u.trans (h.mono u.size);exact⟨(Yb (h.block w.heap.size Px)).trans F,(Yb (h.block w.heap.size Px)).trans b1,(Yb (h.block (w.heap.size+1) Px)).trans b3,(Yb (p.block a.b g.lt)).trans g.c0,(Yb (p.block a.b g.lt)).trans g.c1,p,g.bel p⟩
def EIn.first{B m:Nat}{a x:ATree}{r:List ATree}{w:kV}(h:EIn B m a w)(hk:a.kids=x::r) :
 ∃ g u, r.length + 1 ≤ u ∧ u ≤ 9223372036854775807 ∧ ∀ W, kW w W → vC W a.b 3 (.slice (some ⟨g, 0, none⟩) (r.length + 1) u) ∧ vC W g 0 (vP x.b) ∧ TreeAt W B x ∧
   ∀j y,r[j]?=some y->W.cell? ⟨g,1+j,none⟩=some y.ptr/\TreeAt W B y:=by
 obtain⟨p,u,hv,X,I⟩:=h.t.vOf;have hl:a.kids.length=r.length+1:=by rw[hk,List.length_cons]
 obtain⟨g,hp⟩:∃g,p=some ⟨g,0,none⟩:=by
  rcases Z4 h.t.rowOf with⟨_,J⟩|⟨g,cap,h1,_⟩;·rw[hk]at J;simp at J
  .rw[hv]at h1;simp only[Value.slice.injEq]at h1;exact⟨g,h1.1⟩
 subst hp;unfold maxLen at I;refine⟨g,u,by omega,I,λW q=>?_⟩;have F:=h.t.bel q;have O:=F.rowOf;refine⟨by have:=F.c3;rw[hv,hl]at this;exact this,Zs O (g:=g) PW (i:=0) (x:=x.ptr) Re,F.kid QF,λj y U=>⟨?_,F.kid (by rw[hk];exact List.mem_cons_of_mem _ (Yd U))⟩⟩;rw[Nat.add_comm];exact Zs O (g:=g) PW (i:=j+1) (x:=y.ptr) (by rw[hk,List.map_cons,List.getElem?_cons_succ,Yg,U];rfl)
def Znd{B m:Nat}(hK:Ub B m)(a:ATree)(w:kV)(st ins:Bool)(h:EIn B m a w)(h1:a.kind=2\/a.kind=3\/a.kind=4):Vd B a w st ins:=by
 have p:mK a st ins=if CP st a.text then 5 else ov a.kids st ins:=by
  obtain⟨b,v,k,t,n,J⟩:=a;simp only[ATree.kind]at h1;rw[mK.eq_def];have e:k≠13:=Px
  have F:k=2\/k=3\/k=4\/k=13:=Px
  simp only[];rw[Y5 F];simp only[e,false_and,if_false];rfl
 refine Jp ?_;intro iO gu code au;rw[<-au];rw[p]at au;refine Wn ?_;intro aH ao;obtain⟨O,u⟩:=zX a.kind
 rw[<-u]at ao h1;clear u;obtain⟨tx,g⟩:=zX a.text
 rw[<-g]at ao;try rw[<-g]at aH
 have U:=lh g;unfold EW at ao;refine V6 ?_;intro j6 jl j7 j0 c1' eh;refine Iy ?_;intro w2 ci;rw[<-ci]at ao;refine Ha ?_;intro q0 q1 q3 s0 s1 cB eB cN fq fc gy;clear hK h p au g eh ci ao cB eB;unfold ATree.ptr at gu ⊢;have rN:=lh (Z78 w2.drew st ins tx);obtain⟨I,y⟩:=zX (CP st tx)
 rw[<-y]at rN aH;clear y;rcases h1 with rfl|rfl|rfl
 all_goals
  go_enter func72,ntmps72
  go_wp2_with fail
  rw[<-fq.o];clear j0 c1' j6 jl j7;refine Z7 [0,2,4,6,8] [5] (λW=>vC W w.heap.size 0 (.bool st)/\vC W w.heap.size 1 (.bool ins)/\vC W (w.heap.size+1) 0 (vP a.b)/\vC W a.b 1 (.string tx)) ⟨q0,q1,q3,s1⟩ λ_=>?_;refine dU ?_
  iterate 5
   refine fa ?_
  refine Z0 ?_;go_wp2_with fail
  refine Ztv ?_;clear q0 q1 q3 s0 s1;intro w3 r0 r1 r3 u0 u1 eg gI mp;cases I;rotate_left
  .go_wp2;exact Zop
  go_wp2_with fail
  refine Zr4 ?_;intro w9 fI eH;clear fI;go_wp2;go_ret;exact⟨by rw[aH.o];rfl,eH.o⟩
def Zge{B m:Nat}(hK:Ub B m)(a:ATree)(w:kV)(st ins:Bool)(h:EIn B m a w){x:ATree}{r:List ATree}(h1:a.kind=13)(hk:a.kids=x::r):Vd B a w st ins:=by
 have Y:mK a st ins=if CP st a.text then 5 else if(La false x).any (λs=>Zg s a.text)then 9 else ov a.kids st ins:=by
  obtain⟨b,v,k,t,n,ks⟩:=a;simp only[ATree.kind,ATree.kids]at h1 hk;subst h1;subst hk;rw[mK.eq_def];simp only[true_and];rfl
 refine Jp ?_;intro iO gu code au;rw[<-au];rw[Y]at au;refine Wn ?_;intro aH ao;rw[h1]at ao;clear h1;have dX:x.many<274877906944:=by have:=XR (a:=a) (k:=x) QF;have:=h.mx;omega
 refine Zp8 ?_;intro g cp bU ej kN np q hq;rw[<-hq]at bU np kN;refine Zs4 ?_;intro HQ yo tx bc;rw[<-bc]at ao;try rw[<-bc]at aH
 have eJ:=lh bc;unfold EW at ao;refine V6 ?_;intro j6 jl j7 j0 c1' eh;obtain⟨um,uo,_,_⟩:=kN _ eh;refine Iy ?_;intro w2 ci;rw[<-ci]at ao;refine Ha ?_;intro q0 q1 q3 s0 s1 cB eB cN fq fc gy;clear hK h Y au bc eh ci ao cB eB hk hq kN;unfold ATree.ptr at gu ⊢;have hn0:0<q+1:=Px
 have iR:(0:Int)<((q+1:Nat):Int):=Px
 have rN:=lh (Z78 w2.drew st ins tx);obtain⟨bf,Z⟩:=zX (CP st tx)
 rw[<-Z]at rN aH;clear Z;go_enter func72,ntmps72
 go_wp2_with fail
 rw[<-fq.o];clear j0 c1' j6 jl j7 um uo;refine Z7 [0,2,4,6,8] [5] (λW=>vC W w.heap.size 0 (.bool st)/\vC W w.heap.size 1 (.bool ins)/\vC W (w.heap.size+1) 0 (vP a.b)/\vC W a.b 1 (.string tx)) ⟨q0,q1,q3,s1⟩ λ_=>?_;refine dU ?_
 iterate 5
  refine fa ?_
 refine Z0 ?_;go_wp2_with fail
 refine Ztv ?_;clear q0 q1 q3 s0 s1;intro w3 r0 r1 r3 u0 u1 eg gI mp;cases bf;rotate_left
 .go_wp2;exact Zop
 obtain⟨l3,l0,ey,_⟩:=np.o w3 gI.o;have u:=lh (Zan false w3 B x ey dX);obtain⟨nm,hnm⟩:=zX (La false x)
 rw[<-hnm]at u aH;unfold ATree.ptr at u;clear ey hnm;go_wp2_with fail
 refine u.o.mono ?_;rintro e p⟨v4,rfl,F,la⟩;obtain⟨pv,CB,rfl,CC,Fm,iH⟩:=F.form2;have I:kW w2 p:=eg.o.trans (la.mono eg.o.size);obtain⟨o0,o1,o3,_,_,J,Ah⟩:=cN.o p I;have sF:w.heap.size+1<p.heap.size:=by
  have h1:=I.size;have h2:w2.heap.size=w.heap.size+2:=by rw[fq.o];simp
  omega
 have kQ:=Abd ⟨w.heap.size+1,0,none⟩ Value.string (λs=>Zg s tx) (Below p.heap.size p) pv CB nm p (by unfold maxLen at Fm;omega) CC
  (fun i y hy => by
   obtain⟨g,O⟩:=iH i y hy;refine⟨g,0,O,λw1 h=>?_⟩;rw[Nat.zero_add];exact(Yb (h.block g (Y9 F g (by rw[O];rfl)).2)).trans (F.cells (by rw[O];rfl) hy))
  (fun y hy w1 h => by
   rw[eJ.o];exact(Zlj w1 B (w.heap.size+1) a y (Ah.bel h) ((Yb (h.block _ sF)).trans o3)).mono λe w2 ⟨h1,h2⟩=>⟨h1,by rw[h2];exact h⟩)
  (Y2 _ _)
 have U:=lh kQ;have xO:=lh I;obtain⟨ag,Aw⟩:=zX (nm.any (λs=>Zg s tx))
 rw[<-Aw]at U aH;clear kQ Aw F la I J Ah r0 r1 r3 l3 l0 u0 u1 iH u;go_wp2_with fail
 refine U.o.mono ?_;rintro e w5⟨rfl,fI⟩;obtain⟨o0,o1,o3,_,_,J,Kt⟩:=cN.o w5 (xO.o.trans (fI.mono xO.o.size));have X:=lh J;have vH:=lh Kt;clear fI J Kt U;cases ag;rotate_left
 .go_wp2;go_ret;exact⟨by rw[aH.o];rfl,X.o⟩
 go_wp2_with fail
 refine(gu.o w5 vH.o).mono ?_;rintro e w9⟨rfl,fI⟩;have eH:=lh ((X.o).trans (fI.mono (X.o).size));exact TN
def Zl5{B m:Nat}(hK:Ub B m)(a:ATree)(w:kV)(st ins:Bool)(h:EIn B m a w){ps bd:ATree}(h1:a.kind=5\/a.kind=37)(hk:a.kids=[ps,bd]):Vd B a w st ins:=by
 have p:mK a st ins=if SR (st||Zi bd) a.text (ps.kids.map ATree.text) bd≠0 then SR (st||Zi bd) a.text (ps.kids.map ATree.text) bd else ov bd.kids (st||Zi bd) true:=by
  obtain⟨b,v,k,t,n,X⟩:=a;simp only[ATree.kind,ATree.kids]at h1 hk;subst hk;obtain⟨b2,v2,Y,t2,Z,vg⟩:=bd;rw[mK.eq_def];have e:¬(k=2\/k=3\/k=4\/k=13):=Px
  simp only[e,h1,if_false,if_true];rfl
 refine Jp ?_;intro iO gu code au;rw[<-au];rw[p]at au;refine Wn ?_;intro aH ao;have hf:=λW (t:TreeAt W B a)=>Zng hK a W st ins h.m h.mx t ps bd hk (λk J=>(h.wa.kid (show bd∈a.kids by rw[hk];simp)).kid J);rw[<-au]at hf;have u:=lh hf;clear hf hk;obtain⟨kd,y⟩:=zX a.kind
 rw[<-y]at ao h1;clear y;obtain⟨tx,g⟩:=zX a.text
 rw[<-g]at ao;try rw[<-g]at aH
 have eJ:=lh g;unfold EW at ao;refine V6 ?_;intro j6 jl j7 j0 c1' eh;refine Iy ?_;intro w2 ci;rw[<-ci]at ao;refine Ha ?_;intro q0 q1 q3 s0 s1 cB eB cN fq fc gy;clear hK h p au g eh ci ao cB eB;unfold ATree.ptr at gu ⊢;unfold ATree.ptr at u;rcases h1 with rfl|rfl
 all_goals
  go_enter func72,ntmps72
  go_wp2_with fail
  rw[<-fq.o];clear j0 c1' j6 jl j7;refine(u.o w2 gy.o).mono ?_;rintro e O⟨rfl,F⟩;obtain⟨_,_,_,_,_,I,_⟩:=cN.o O F;have U:=lh I;clear F I q0 q1 q3 s0 s1;go_wp2;go_ret;exact⟨rfl,U.o⟩
def Zgl{B m:Nat}(hK:Ub B m)(a:ATree)(w:kV)(st ins:Bool)(h:EIn B m a w){x:ATree}{r:List ATree}(h1:a.kind=7\/a.kind=8\/a.kind=9)(hk:a.kids=x::r)(hr:1<=r.length):Vd B a w st ins:=by
 have J:mK a st ins=if(a.kind==9&&st)||r.any (λx=>!Tt x)then 1 else ov a.kids st ins:=by
  obtain⟨b,v,k,t,n,ks⟩:=a;simp only[ATree.kind]at h1;simp only[ATree.kids]at hk;subst hk;rw[mK.eq_def];have Z:¬(k=2\/k=3\/k=4\/k=13):=Px
  have e2:¬(k=5\/k=37):=Px
  have e3:k≠6:=Px
  simp only[Z,e2,e3,h1,if_false,if_true];rfl
 refine Jp ?_;intro iO gu code au;rw[<-au];rw[J]at au;refine Wn ?_;intro aH ao;obtain⟨kd,O⟩:=zX a.kind
 rw[<-O]at ao h1 aH;clear O;have fY:=lh hr;clear hr;refine Zp8 ?_;intro g cp bU ej kN np q hq;rw[<-hq]at bU np kN;refine Zs4 ?_;intro HQ yo tx bc;rw[<-bc]at ao;try rw[<-bc]at aH
 have eJ:=lh bc;unfold EW at ao;refine V6 ?_;intro j6 jl j7 j0 c1' eh;obtain⟨um,uo,_,_⟩:=kN _ eh;refine Iy ?_;intro w2 ci;rw[<-ci]at ao;refine Ha ?_;intro q0 q1 q3 s0 s1 cB eB cN fq fc gy;clear hK h J au bc eh ci ao cB eB hk hq kN;unfold ATree.ptr at gu ⊢;obtain⟨RA,F⟩:=zX (r.any (λx=>!Tt x))
 rw[<-F]at aH;have pr:=lh F;clear F;rcases h1 with rfl|rfl|rfl;rotate_left
 rotate_left
 cases st;rotate_left
 .exact YW
 all_goals
  have hn0:0<q+1:=Px
  have cG:1<=q+1:=Px
  have Gw:2<=cp:=by have:=fY.o;rw[<-HQ.o]at this;omega
  have iR:(1:Int)<=((q+1:Nat):Int):=Px
  go_enter func72,ntmps72
  go_wp2_with fail
  rw[<-fq.o];clear j0 c1' j6 jl j7 um uo;obtain⟨l3,l0,_,_⟩:=np.o w2 fc.o
  have I:=Abp ATree.ptr (λx=>!Tt x) (Below w2.heap.size w2) (some ⟨g,1,none⟩) (cp-1) r w2 (by rw[<-HQ.o];omega) (by rw[<-HQ.o];omega)
   (λi y hy=>⟨g,1,rfl,λw1 h=>((np.o w1 (fc.o.trans (h.mono fc.o.size))).2.2.2 i y hy).1⟩)
   (fun u hu w1 h => by
    obtain⟨i,hi⟩:=List.getElem?_of_mem hu;exact(Zlw w1 B u ((np.o w1 (fc.o.trans (h.mono fc.o.size))).2.2.2 i u hi).2).mono λe w2 ⟨h1,h2⟩=>⟨h1,by rw[h2];exact h⟩)
   (Y2 _ _)
  rw[<-HQ.o,<-pr.o]at I;have U:=lh I;clear I l3 l0;refine U.o.mono ?_;rintro e w3⟨rfl,p⟩;have bj:=p;obtain⟨r0,r1,r3,u0,u1,X,Y⟩:=cN.o w3 p;obtain⟨eg,gI,mp⟩:=ds p X Y;clear bj p X Y q0 q1 q3 s0 s1;clear U;cases RA;rotate_left
  .go_wp2;exact Zop
  go_wp2_with fail
  refine Zr4 ?_;intro w9 fI eH;clear fI;go_wp2;go_ret;exact⟨by rw[aH.o];rfl,eH.o⟩
def Zfj{B m:Nat}(hK:Ub B m)(a:ATree)(w:kV)(st ins:Bool)(h:EIn B m a w){x:ATree}{r:List ATree}(h1:a.kind=24)(hk:a.kids=x::r):Vd B a w st ins:=by
 have J:mK a st ins=if x.kind==23&&CP st x.text then 5 else ov a.kids st ins:=by
  obtain⟨b,v,k,t,n,ks⟩:=a;simp only[ATree.kind,ATree.kids]at h1 hk;subst h1;subst hk;rw[mK.eq_def];rfl
 refine Jp ?_;intro iO gu code au;rw[<-au];rw[J]at au;refine Wn ?_;intro aH ao;rw[h1]at ao;clear h1;refine Zp8 ?_;intro g cp bU ej kN np q hq;rw[<-hq]at bU np kN;refine Zs4 ?_;intro HQ yo tx bc;rw[<-bc]at ao;try rw[<-bc]at aH
 have eJ:=lh bc;unfold EW at ao;refine V6 ?_;intro j6 jl j7 j0 c1' eh;obtain⟨Z,uo,_,_⟩:=kN _ eh;refine Iy ?_;intro w2 ci;rw[<-ci]at ao;refine Ha ?_;intro q0 q1 q3 s0 s1 cB eB cN fq fc gy;clear hK h J au bc eh ci ao cB eB hk hq kN;unfold ATree.ptr at gu ⊢;have hn0:0<q+1:=Px
 have iR:(0:Int)<((q+1:Nat):Int):=Px
 go_enter func72,ntmps72
 go_wp2_with fail
 rw[<-fq.o];clear j0 c1' j6 jl j7 Z uo;obtain⟨l3,l0,y,_⟩:=np.o w2 fc.o;have x0:=y.c0;have p:=y.c1;obtain⟨u,O⟩:=zX x.text
 obtain⟨F,U⟩:=zX x.kind
 rw[<-O]at p aH;rw[<-U]at x0 aH;clear O U y l0 l3;have rN:=lh (Z78 w2.drew st ins u);obtain⟨bf,X⟩:=zX (CP st u)
 rw[<-X]at rN aH;clear X;by_cases I:F=23
 .subst I;refine Z7 [0,2,4,6,8,10,12,14,16,18,20] [11,12] (λW=>vC W w.heap.size 0 (.bool st)/\vC W w.heap.size 1 (.bool ins)/\vC W x.b 0 (vI 23)/\vC W x.b 1 (.string u)) ⟨q0,q1,x0,p⟩ λ_=>?_;refine dU ?_
  iterate 11
   refine fa ?_
  refine Z0 ?_;go_wp2_with fail
  refine Ztv ?_;clear q0 q1 q3 s0 s1;intro w3 r0 r1 r3 u0 u1 eg gI mp;cases bf;rotate_left
  .go_wp2;exact Zop
  go_wp2_with fail
  refine Zr4 ?_;intro w9 fI eH;exact TN
 .have Ck:(F==23)=false:=by simpa using I
  rw[Ck,Bool.false_and]at aH;clear I;refine Z7 [0,2,4,6,8,10,12,14,16,18,20] [11,12] (λW=>vC W w.heap.size 0 (.bool st)/\vC W w.heap.size 1 (.bool ins)/\vC W x.b 0 (vI F)/\vC W x.b 1 (.string u)) ⟨q0,q1,x0,p⟩ λ_=>?_;refine dU ?_
  iterate 11
   refine fa ?_
  refine Z0 ?_;have mm:w2.drew.cell? ⟨w.heap.size,0,none⟩=some (.bool st):=q0;have jm:w2.drew.cell? ⟨w.heap.size,1,none⟩=some (.bool ins):=q1;have Pf:w2.drew.cell? ⟨w.heap.size+1,0,none⟩=some (vP a.b):=q3;have Fl:Hid (TreeAt w2.drew B a):=lh (gy.o.keep λk _ _=>rfl);have Y:=lh fc.o.drew;clear q0 q1 q3 s0 s1 x0 p;go_wp2_with fail
  refine(gu.o w2.drew Fl.o).mono ?_;rintro e w9⟨rfl,fI⟩;have eH:=lh ((Y.o).trans (fI.mono (Y.o).size));exact TN
def Zez{B m:Nat}(hK:Ub B m)(a:ATree)(w:kV)(st ins:Bool)(h:EIn B m a w){x:ATree}{r:List ATree}(h1:a.kind=34)(hk:a.kids=x::r):Vd B a w st ins:=by
 have y:mK a st ins=if st&&x.kind==23 then 1 else ov a.kids st ins:=by
  obtain⟨b,v,k,t,n,Y⟩:=a;simp only[ATree.kind,ATree.kids]at h1 hk;subst h1;subst hk;rw[mK.eq_def];rfl
 refine Jp ?_;intro iO gu code au;rw[<-au];rw[y]at au;refine Wn ?_;intro aH ao;rw[h1]at ao;clear h1;refine Zp8 ?_;intro g cp bU ej kN np q hq;rw[<-hq]at bU np kN;refine Zs4 ?_;intro HQ yo tx bc;rw[<-bc]at ao;try rw[<-bc]at aH
 have Z:=lh bc;unfold EW at ao;refine V6 ?_;intro j6 jl j7 j0 c1' eh;obtain⟨F,I,J,_⟩:=kN _ eh;have p:=J.c0;obtain⟨O,U⟩:=zX x.kind
 rw[<-U]at p aH;clear U J;refine Iy ?_;intro w2 ci;rw[<-ci]at ao;refine Ha ?_;intro q0 q1 q3 s0 s1 cB eB cN fq fc gy;clear hK h y au bc eh ci ao cB eB hk hq kN;unfold ATree.ptr at gu ⊢;have hn0:0<q+1:=Px
 have iR:(0:Int)<((q+1:Nat):Int):=Px
 by_cases u:O=23
 .subst u;cases st
  .go_enter func72,ntmps72
   go_wp2_with fail
   rw[<-fq.o];clear j0 c1' j6 jl j7 F I p;refine Zuj ?_;intro w9 fI eH;exact TN
  .exact YW
 .have X:(O==23)=false:=by simpa using u
  rw[X,Bool.and_false]at aH;clear u;cases st
  all_goals
   go_enter func72,ntmps72
   go_wp2_with fail
   rw[<-fq.o];clear j0 c1' j6 jl j7 F I p;refine Zuj ?_;intro w9 fI eH;clear fI;go_wp2;go_ret;exact⟨by rw[aH.o];rfl,eH.o⟩
def Zgy{B m:Nat}(hK:Ub B m)(a:ATree)(w:kV)(st ins:Bool)(h:EIn B m a w)(h1:a.kind=6):Vd B a w st ins:=by
 have y:mK a st ins=if Iw a false then 9 else ov a.kids st ins:=by
  obtain⟨b,v,k,t,n,X⟩:=a;simp only[ATree.kind]at h1;subst h1;rw[mK.eq_def];rfl
 refine Jp ?_;intro iO gu code au;rw[<-au];rw[y]at au;refine Wn ?_;intro aH ao;rw[h1]at ao;clear h1;have u:=lh (λW (t:TreeAt W B a)=>Za8 W B a st ins false t h.mx);obtain⟨tx,g⟩:=zX a.text
 rw[<-g]at ao;try rw[<-g]at aH
 have Y:=lh g;unfold EW at ao;refine V6 ?_;intro j6 jl j7 j0 c1' eh;refine Iy ?_;intro w2 ci;rw[<-ci]at ao;refine Ha ?_;intro q0 q1 q3 s0 s1 cB eB cN fq fc gy;clear hK h y au g eh ci ao cB eB;unfold ATree.ptr at gu ⊢;obtain⟨O,F⟩:=zX (Iw a false)
 rw[<-F]at u aH;clear F;unfold ATree.ptr at u;go_enter func72,ntmps72
 go_wp2_with fail
 rw[<-fq.o];clear j0 c1' j6 jl j7;refine(u.o w2 gy.o).mono ?_;rintro e w3⟨rfl,p⟩;have U:=p;obtain⟨Z,r1,r3,u0,u1,I,J⟩:=cN.o w3 p;obtain⟨eg,gI,mp⟩:=ds p I J;clear U p I J q0 q1 q3 s0 s1;cases O;rotate_left
 .simp only[if_true];go_wp2;exact Zop
 simp only[Bool.false_eq_true,if_false];go_wp2_with fail
 refine Zr4 ?_;intro w9 fI eH;exact TN
def Zey{B m:Nat}(hK:Ub B m)(a:ATree)(w:kV)(st ins:Bool)(h:EIn B m a w)(h1:a.kind=10):Vd B a w st ins:=by
 have p:mK a st ins=if ins then ov a.kids st ins else 6:=by
  obtain⟨b,v,k,t,n,u⟩:=a;simp only[ATree.kind]at h1;subst h1;rw[mK.eq_def];rfl
 refine Jp ?_;intro iO gu code au;rw[<-au];rw[p]at au;refine Wn ?_;intro aH ao;rw[h1]at ao;clear h1;obtain⟨tx,g⟩:=zX a.text
 rw[<-g]at ao;try rw[<-g]at aH
 have y:=lh g;unfold EW at ao;refine V6 ?_;intro j6 jl j7 j0 c1' eh;refine Iy ?_;intro w2 ci;rw[<-ci]at ao;refine Ha ?_;intro q0 q1 q3 s0 s1 cB eB cN fq fc gy;clear hK h p au g eh ci ao cB eB;unfold ATree.ptr at gu ⊢;cases ins;·exact YW
 .exact Abz
def Zgu{B m:Nat}(hK:Ub B m)(a:ATree)(w:kV)(st ins:Bool)(h:EIn B m a w)(h2:a.kind≠2)(h3:a.kind≠3)(h4:a.kind≠4)(p:a.kind≠13)(h5:a.kind≠5)(u:a.kind≠37)(y:a.kind≠6)(F:a.kind≠7)(I:a.kind≠8)(J:a.kind≠9)(O:a.kind≠10)(U:a.kind≠24)(X:a.kind≠34):Vd B a w st ins:=by
 have Z:mK a st ins=ov a.kids st ins:=by
  obtain⟨b,v,k,t,n,ks⟩:=a;simp only[ATree.kind]at h2 h3 h4 p h5 u y F I J O U X;rw[mK.eq_def];simp only[h2,h3,h4,p,h5,u,y,F,I,J,O,U,X,or_self,if_false,ATree.kids]
 refine Jp ?_;intro iO gu code au;rw[<-au];rw[Z]at au;refine Wn ?_;intro aH ao;obtain⟨g,bD⟩:=zX a.kind
 rw[<-bD]at ao h2 h3 h4 p h5 u y F I J O U X;obtain⟨tx,Y⟩:=zX a.text
 rw[<-Y]at ao;try rw[<-Y]at aH
 have eJ:=lh Y;unfold EW at ao;refine V6 ?_;intro j6 jl j7 j0 c1' eh;refine Iy ?_;intro w2 ci;rw[<-ci]at ao;refine Ha ?_;intro q0 q1 q3 s0 s1 cB eB cN fq fc gy;clear hK h Z au Y eh ci ao cB eB;unfold ATree.ptr at gu ⊢;have n2:(g==2)=false:=RU
 have n3:(g==3)=false:=RV
 have n4:(g==4)=false:=Rb
 have Pg:(g==13)=false:=by simpa using p
 have n5:(g==5)=false:=RT
 have Ph:(g==37)=false:=by simpa using u
 have n6:(g==6)=false:=by simpa using y
 have n7:(g==7)=false:=by simpa using F
 have n8:(g==8)=false:=by simpa using I
 have n9:(g==9)=false:=by simpa using J
 have DG:(g==10)=false:=by simpa using O
 have Pi:(g==24)=false:=by simpa using U
 have Pj:(g==34)=false:=by simpa using X
 clear bD h2 h3 h4 p h5 u y F I J O U X;exact Abz
def Aby{q:Srt}{l:List Tree}(h:Wf q l):WTL l:=by
 induction h<;>simp only[WTL,WT,and_true,List.length_cons,List.length_nil]at * <;>(repeat' apply Yu)<;>first
  |assumption
  |trivial
  |(constructor<;>intros<;>omega)
def Zax{text:kB}{t:Tree}(h:Zt text=.ok t):WT t/\t.many<=1500:=by
 obtain⟨l,h1,rfl,g⟩:=Zal h;exact⟨⟨Ar.any Py,Aby h1⟩,g⟩
def Z9s(w:kV)(r:Except (Int×Int) Tree)(e:Ending)(w':kV):Prop:=
 kW w w'/\match r with
 | .ok t=>∃a,e=.returned (.tuple #[vP a.b,.bool (t.kind==1)])/\Got w w.heap.size w' a t
 | .error _=>e=.returned (.tuple #[.pointer none,.bool false])
theorem Zmm{a:ATree}{t:Tree}(h:a.tree=t):t.kind=a.kind:=by subst h;cases a;rfl
def Z7k(w:kV)(text:kB)(I:Words w)(J:Gv w w.heap.size) :
 kC 4 #[.string text] w (Z9s w (Zt text)):=by
 have g:=lh (Zeo w text I J);obtain⟨r,hr⟩:=zX (Zt text)
 rw[<-hr]at g ⊢;clear hr I J;unfold Z9s;cases r with
 |error x=>
   obtain⟨c,p⟩:=x;go_enter func4,ntmps4
   go_wp2_with fail
   refine g.o.mono ?_;rintro e w1⟨hb,x,rfl,hx⟩;have F:=lh hb;have U:x≠.nilIface:=by
    rcases hx with⟨_,rfl⟩|⟨q,_,hx⟩;·simp
    .obtain⟨_,rfl,_⟩:=hx;simp
   obtain⟨T,y,rfl⟩:∃T y,x=.iface T y:=by
    exact Zyb
   clear hb hx U g;go_wp2_with fail
   refine Z7 [0,2,4,6,8,10,12,14,16,18,20,22,24,26,28] [15] (λ_=>True) trivial λ_=>?_;refine dU ?_
   iterate 15
    refine fa ?_
   refine Z0 ?_;go_wp2;go_ret2
   exact⟨F.o.drew,rfl⟩
 |ok t=>
   go_enter func4,ntmps4
   go_wp2_with fail
   refine g.o.mono ?_;rintro e w1⟨hb,a,rfl,m⟩;have c0:=m.at'.c0;have hk:=Zmm m.tree;obtain⟨X,O⟩:=zX a.kind
   rw[<-O]at hk c0;obtain⟨Y,F,u⟩:=ds hk hb m;clear hb m g hk O;go_wp2_with fail
   refine Z7 [0,2,4,6,8,10,12,14,16,18,20,22,24,26,28] [15] (λW=>vC W a.b 0 (vI X)) c0 λ_=>?_;refine dU ?_
   iterate 15
    refine fa ?_
   refine Z0 ?_;go_wp2;go_ret2
   exact⟨F.o.drew,a,by rw[Y.o];rfl,u.o.tree,u.o.at'.keep λk _ _=>rfl,u.o.nodup,u.o.new⟩
def Zde{l:List ATree}{n:Nat}(h:l.length=n+1):∃x r,l=x::r:=by
 match l,h with
 |x::r,_=>exact⟨x,r,rfl⟩
def Zas{l:List ATree}{n:Nat}(h:l.length=n)(hn:2<=n):∃x r,l=x::r/\1<=r.length:=by
 match l,h with
 |x::r,h=>exact⟨x,r,rfl,by simp at h;omega⟩
 | [],h=>simp at h;omega
def Zmu(B:Nat):∀m,Zy4 B m:=by
 intro m;induction m with
 |zero=>intro a w st ins hm;obtain⟨b,v,k,t,n,ks⟩:=a;simp[ATree.many]at hm
 |succ m U=>
   intro a w st ins hm F X Y;have g:Ub B m:=Zik U;have ha:=F.self;have h:EIn B m a w:=⟨hm,F,X,Y⟩
   by_cases Z:a.kind=2\/a.kind=3\/a.kind=4;·exact Znd g a w st ins h Z
   by_cases p:a.kind=13
   .obtain⟨x,r,hk⟩:=Zde (ha.one (.inl p));exact Zge g a w st ins h p hk
   by_cases h5:a.kind=5\/a.kind=37
   .obtain⟨x,y,hk⟩:=Zx3 (ha.two Px);exact Zl5 g a w st ins h h5 hk
   by_cases I:a.kind=6;·exact Zgy g a w st ins h I
   by_cases h7:a.kind=7\/a.kind=8\/a.kind=9
   .obtain⟨x,r,hk,hr⟩:∃x r,a.kids=x::r/\1<=r.length:=by
     by_cases h:a.kind=7
     .rcases ha.if' h with h|h;·exact Zas h (Y0 _)
      .exact Zas h Px
     .exact Zas (ha.two Px) (Y0 _)
    exact Zgl g a w st ins h h7 hk hr
   by_cases J:a.kind=10;·exact Zey g a w st ins h J
   by_cases O:a.kind=24
   .obtain⟨x,r,hk⟩:=Zde (ha.two Px);exact Zfj g a w st ins h O hk
   by_cases u:a.kind=34
   .obtain⟨x,r,hk⟩:=Zde (ha.one (.inr u));exact Zez g a w st ins h u hk
   exact Zgu g a w st ins h Px Px Px p Px Px I Px Px Px J O u
def Zc5(w:kV)(B:Nat)(a:ATree)(st ins:Bool)(u:TreeAt w B a)(X:WA a)(y:a.many<274877906944) :
 kC 13 #[a.ptr,.bool st,.bool ins] w λe w'=>e=.returned (da (A0 a st ins))/\kW w w':=by
 have p:=lh (λW (h:TreeAt W B a)=>Z4c W B a h);obtain⟨sb,g⟩:=zX ((st||Zi a))
 obtain⟨s0,Y⟩:=zX (Zi a)
 have kn:=lh (λW (h:TreeAt W B a)=>Za8 W B a sb ins true h y);have gu:=lh (λW (h:TreeAt W B a)=>Zik (Zmu B a.many) a W sb ins Px (λk hk=>X.kid hk) y h);have Z:A0 a st ins=if Iw a true then 9 else ov a.kids sb ins:=by unfold A0;rw[g]
 rw[Z];obtain⟨SB,sT⟩:=zX (Iw a true)
 obtain⟨RK,yc⟩:=zX (ov a.kids sb ins)
 rw[<-sT]at kn ⊢;rw[<-yc]at gu ⊢;rw[<-Y]at p g;obtain⟨ev,F⟩:=zX (da (if SB then 9 else RK))
 rw[<-F];have xv:=lh F;have m:kW w (w.alloc (.cells #[.bool sb,.bool ins] 89)):=(Y2 _ _).alloc (Y0 _) _;have I:(w.alloc (.cells #[.bool sb,.bool ins] 89)).cell? ⟨w.heap.size,0,none⟩=some (.bool sb):=PE
 have J:(w.alloc (.cells #[.bool sb,.bool ins] 89)).cell? ⟨w.heap.size,1,none⟩=some (.bool ins):=PE
 have aZ:(w.alloc (.cells #[.bool sb,.bool ins] 89)).heap.size=w.heap.size+1:=PE
 have HB:=lh m;have HT:=lh u;obtain⟨w1,O⟩:=zX (w.alloc (.cells #[.bool sb,.bool ins] 89))
 have mB:=lh O;rw[<-O]at aZ I J m;have U:∀W,kW w1 W->vC W w.heap.size 0 (.bool sb)/\vC W w.heap.size 1 (.bool ins)/\kW w W/\TreeAt W B a:=λW h=>by
  have h2:=m.trans (h.mono m.size);exact⟨(Yb (h.block w.heap.size Px)).trans I,(Yb (h.block w.heap.size Px)).trans J,h2,u.bel h2⟩
 obtain⟨q0,q1,cB,Kv⟩:=U w1 (Y2 _ _);obtain⟨cN,Dx,fc⟩:=ds U Kv cB;have cI:∀(K:Prop),K->K:=λ_ h=>h;clear u X y Z sT yc Y F m aZ I J O U cB Kv cI;unfold ATree.ptr at p kn gu ⊢;cases st
 .rw[Bool.false_or]at g;subst g;go_enter func13,ntmps13
  go_wp2_with fail
  refine(p.o w HT.o).mono ?_;rintro e w'⟨rfl,jW⟩;rw[jW];clear jW w' p;exact Abh
 .rw[Bool.true_or]at g;subst g;go_enter func13,ntmps13
  exact Abh
section
variable {C:RCtx}{M M1:MRep}{w W:kV}{s:MSt}{B:Nat}{a:ATree}{sc vr:Int}{st:Bool}{d:Nat}{D:DF}{b:Int}{fr:Frm}{A:Act}{K:Act->kV->Prop}{Q:Exit->Act->kV->Prop}
theorem Zqi:ky []=Code.seq (ky [0]) (Code.seq (ky [1,0]) (Code.seq (ky [1,1,0]) (Code.seq (ky [1,1,1,0]) (Code.seq (ky [1,1,1,1,0]) (Code.seq (ky [1,1,1,1,1,0]) (Code.seq (ky [1,1,1,1,1,1,0]) (ky [1,1,1,1,1,1,1]))))))):=by kernel_rfl
def AaU(g:C.Ok){k:Nat}(hk:C.w0.heap.size<=k):C.N k=-3:=by
 rw[RCtx.N_eq];cases h:Us C.pl k with
 |none=>rfl
 |some v=>
   obtain⟨c,T,h1⟩:=g.cells _ (Z92 h);have:=(Y1.1 h1).1;simp only at this;omega
def Zld{D:DF}{text:kB}{sc:Int}{x:Int×Int}(h:Zt text=.error x):S3 D text sc fr s=(s,.error (.thr (.say SO))):=by
 unfold S3 Wi;rw[h];rfl
def Zl7{D:DF}{text:kB}{sc:Int}{t:Tree}(h:Zt text=.ok t):S3 D text sc fr s =
 if t.bare.check fr.strict false≠0 then(s,.error (.thr (.say SO)))
 else if fr.strict||t.bare.strict then Uk D t.bare s.next ⟨true,s.next⟩ (s.opens sc (-1) (-3))
 else if T2 s.H t.bare fr.vars (sc+1).toNat sc then(s,.error (.thr (.say SO)))
 else Uk D t.bare sc ⟨false,fr.vars⟩ s:=by
 unfold S3 Wi;rw[h];simp only;split;·rfl
 split;·rfl
 split<;>rfl
def EvS.box(h:EvS C M w st vr M1 W s)(i:Nat){x:Value}{st':Bool}{vr':Int}(he:(#[Value.bool st,Value.int .i64 vr]:Array Value).setIfInBounds i x=#[.bool st',vI vr']):EvS C M w st' vr' M1 (W.setCell ⟨w.heap.size,i,none⟩ x) s:=by
 obtain⟨m,p,g⟩:=h.lf.put h.mat h.fr Py Py i x;rw[he]at g;exact⟨m,p,g,Lo.beside (c':=#[]) (T':=56) h.lr (show w.heap.size+1≠w.heap.size by omega) i x⟩
def Zdk(ha:TreeAt W B a)(g:∀k∈a.blocks,k≠w.heap.size)(i:Nat)(x:Value):TreeAt (W.setCell ⟨w.heap.size,i,none⟩ x) B a:=
 ha.keepB λk hk=>Y8 _ _ _ _ (g k hk)
def Aa5{x:Er}{ev:Value}(g:EvS C M w st vr M1 W s)(he:ax C M1 W x ev){s1:MSt}(hs:s1=s) :
 cK C M w (s1,.error x) (.returned (.tuple #[.agg #[vI 0,vI 0,.string ⟨#[]⟩],ev])) (((W.setCell ⟨w.heap.size+1,0,none⟩ (vI 0)).setCell ⟨w.heap.size+1,1,none⟩ (vI 0)).setCell ⟨w.heap.size+1,2,none⟩ (.string ⟨#[]⟩)):=by
 subst hs;obtain⟨m,p,u⟩:=g.lr.ret (x':=(vI 0)) (y':=(vI 0)) (z':=.string ⟨#[]⟩) g.mat g.fr;exact⟨M1,m,p,⟨0,0,⟨#[]⟩⟩,ev,rfl,u _ _ he⟩
def Zel(hW:Words C.w0)(hL:Gv C.w0 C.w0.heap.size)(hC:C.Ok)(cT:G8 C D b)(hD:DH D b)(h:MAt C M w s)(hI:Inv s (d+13601))(hA:FAt s sc fr)(hb:b<=s.steps)(hs:s.steps<=20000)(text:kB) :
 kC 145 #[vP C.mb,.string text,vI sc,.agg #[.bool fr.strict,vI fr.vars]] w λe w'=>cK C M w (S3 D text sc fr s) e w':=by
 obtain⟨g,rg⟩:=fr;obtain⟨F,lf,lr⟩:=Znt h ⟨g,rg⟩;unfold frO vO at F lf lr;dsimp only at F lf lr ⊢
 obtain⟨z,hz⟩:=zX ((w.alloc (.cells #[.bool g,vI rg] 63)).alloc (.cells #[vI 0,vI 0,.string ⟨#[]⟩] 56))
 rw[<-hz]at F lf lr;have O:=h.below F;have Gx:EvS C M w g rg M z s:=⟨O,.of_below F,lf,lr⟩
 obtain⟨J,HS,HZ⟩:=ds (Zeo z text (hW.below O.old) ((hL.keep λk hk=>O.old.block k hk).mono O.old.size)) Gx hz;have bQ:=Gx.size;obtain⟨HC,iP,HD,HI,HA,HB,HO⟩:=gw hC cT hD hI hA (Yu hb hs) (Y4 h.old.size F.size);clear hW hL hC cT hD h hI hA hb hs F lf lr O Gx hz;obtain⟨R,m⟩:=zX (S3 D text sc ⟨g,rg⟩ s)
 rw[<-m];cases hpt:Zt text with
 |error xe=>
   rw[Zld hpt]at m;have fd:=lh m;clear m;rw[hpt]at J;refine XL ?_;conv=>arg 2;whnf
   go_wp2_with fail
   rw[<-HZ.o];refine J.o.mono ?_;rintro e w1⟨U,x,rfl,hx⟩;obtain⟨T,y,rfl⟩:∃T y,x=.iface T y:=by
    exact Zyb
   have Dz:=lh (HS.o.bel U);clear U hx J;exact AbV
 |ok t=>
   rw[Zl7 hpt]at m;rw[hpt]at J;obtain⟨xJ,Gy⟩:=Zax hpt;have NM:=lh (show WT t from xJ);have ud:Wi text=some t.bare:=by unfold Wi;rw[hpt]
   obtain⟨hst,p,-⟩:=Zb3 ud;obtain⟨n,hn⟩:=zX t.bare
   rw[<-hn]at hst p m;have HN:=lh (Yu hn (Yu hst p));obtain⟨X,ur⟩:=zX (n.check g false)
   rw[<-ur]at m;have mQ:=lh m;clear m;have uu:=lh ur;clear xJ Gy ud hst p hn ur hpt;refine XL ?_;rw[Zqi];refine dq ?_;intro K HK;go_wp2_with fail
   rw[<-HZ.o];refine HK.o _ _ ?_;clear HK K;refine dq ?_;intro K HK;go_wp2_with fail
   refine J.o.mono ?_;rintro e w1⟨U,a,rfl,Y⟩;have uj:=HS.o.bel U;have ew:∀k∈a.blocks,z.heap.size<=k:=λk hk=>(Y.new k hk).1;have eW:a.free M:=λk hk=>HS.o.mat.fresh (ew k hk);have dl:∀k∈a.blocks,k≠w.heap.size:=λk hk e=>by have:=ew k hk;omega
   have C8:a.nt C.N=n:=by
    rw[HN.o.1,<-Y.tree];exact Znh a λk hk=>AaU HC.o (Y4 HO.o (ew k hk))
   have nn:=Y.at';have oO:WA a:=Zva a (by rw[Y.tree];exact NM.o);have hst:=HN.o.2.1;have p:=HN.o.2.2;rw[<-C8]at hst p;have dw:a.many<=1500:=by rw[VZ,Vi]at p;exact p
   have iJ:a.kids.length<=1500:=Qf
   have Bg:X=A0 a g false:=by rw[uu.o,<-C8,Zqa]
   have mW:=Zc5 w1 z.heap.size a g false nn oO Px;rw[<-Bg]at mW;simp only[ATree.ptr]at mW;obtain⟨Kw,dp,yq,il,NN,kK,th⟩:=gw mW uj C8 (Yu hst (Yu p (Yu dw iJ))) nn eW dl;obtain⟨f0,f1⟩:=uj.lf.two;clear U Y uj ew eW dl C8 nn oO hst p dw iJ Bg mW J;go_wp2_with fail
   refine HK.o _ _ ?_;clear HK K;refine dq ?_;intro K HK;go_wp2_with fail
   refine Kw.o.mono ?_;rintro e w2⟨rfl,ar⟩;have bW:=lh (dp.o.bel ar);have gy:=lh (NN.o.bel ar);clear ar Kw f0 f1;obtain⟨f0,f1⟩:=bW.o.lf.two;have y0:=bW.o.lf.fz 0;by_cases fZ:X=0
   .have I:=mQ.o;rw[Y3 (by simp[fZ])]at I;have fY:=lh I;clear I mQ;rw[show da X= .nilIface by rw[fZ];rfl];go_wp2_with fail
    refine HK.o _ _ ?_;clear HK K;cases g
    .cases hisa:Zi a
     .have Gz:=lh hisa;have rU:=lh (show n.strict=false by rw[<-yq.o,Z6e,hisa]);clear hisa;refine dq ?_;intro K HK;go_wp2_with fail
      refine HK.o _ _ ?_;clear HK K;refine dq ?_;intro K HK;have u:=Z4c w2 z.heap.size a gy.o;rw[Gz.o]at u;simp only[ATree.ptr]at u;have Z:=lh u;clear u;go_wp2_with fail
      refine Z.o.mono ?_;rintro e w3⟨rfl,kq⟩;rw[kq];clear kq w3 Z;go_wp2_with fail
      refine HK.o _ _ ?_;clear HK K f0 f1 y0;have pM:=lh (bW.o.box 0 (st':=false) (vr':=rg) rfl);have mj:=lh (Zdk gy.o th.o 0 (.bool false));clear bW gy;generalize w2.setCell ⟨w.heap.size,0,none⟩ (.bool false)=W6 at pM mj ⊢;obtain⟨pb,cb,cg,bU,ej,cU⟩:=ll.slice mj.o.rowOf;obtain⟨qb,mt⟩:=zX a.kids.length
      rw[<-mt]at cg bU;have c3:=mj.o.c3;rw[cg]at c3;refine AaY ?_;intro pB W7 oS xj kY hnm aG;rw[aG]at hnm;simp only[ATree.ptr,ATree.b]at hnm;have rT:=lh hnm;have lu:=lh (show EvS C M w false rg M W7 s by rw[oS];exact pM.o.bel pB);have Dv:=lh (show TreeAt W7 z.heap.size a by rw[oS];exact mj.o.bel pB);have yp:=lh oS;clear cg bU ej cU mt pB oS xj hnm aG kY;refine dq ?_;intro K HK;go_wp2_with fail
      rw[<-yp.o];refine rT.o.mono ?_;rintro e w8⟨v8,rfl,uK,pN⟩;obtain⟨p8,n8,c8,rfl⟩:=uK.slice;obtain⟨xo,BT,Hm⟩:=ds (lu.o.bel pN) (Dv.o.bel pN) uK;clear pN uK rT c3;go_wp2_with fail
      refine HK.o _ _ ?_;clear HK K;refine po ?_;intro K HK;have am:R=if T2 s.H n rg (sc+1).toNat sc then(s,.error (.thr (.say SO)))else Uk D n sc ⟨false,rg⟩ s:=by rw[fY.o];simp[rU.o]
      have bA:=lh am;clear am;refine Zr2 xo.o HI.o.wf HA.o.anc HA.o.vlo BT.o il.o.2.2.2 Hm.o ⟨rfl,⟨rfl,rfl,rfl,rfl,rfl,rfl,trivial⟩,rfl⟩ (λA9 W9 eo CW nq=>?_) (λy a' w' eo h1 h2 h3=>Yp h1 h2 ?_)
      .refine HK.o _ _ ?_;clear HK K;refine Zlp (d:=d) HC.o iP.o HD.o (xo.o.bel nq) (BT.o.bel nq) kK.o il.o.1 il.o.2.1 (HI.o.less Px) ⟨HA.o.root,HA.o.lo,HA.o.hi,HA.o.anc,HA.o.vlo⟩ HB.o.1 HB.o.2 CW (λy a' w' h1 h2 h3=>Yp h1 h2 ?_) (λ_ _ d _ _ h=>by cases d<;>exact h);rw[yq.o]at eo h3;rw[bA.o,Y3 (by rw[eo];simp)];exact h3
      .rw[yq.o]at eo;rw[bA.o,Y5 eo];exact h3
     .have Gz:=lh hisa;have rU:=lh (show(false||n.strict)=true by rw[<-yq.o,Z6e,hisa];rfl);clear hisa;refine dq ?_;intro K HK;go_wp2_with fail
      refine HK.o _ _ ?_;clear HK K;refine dq ?_;intro K HK;have u:=Z4c w2 z.heap.size a gy.o;rw[Gz.o]at u;simp only[ATree.ptr]at u;have Z:=lh u;clear u;go_wp2_with fail
      refine Z.o.mono ?_;rintro e w3⟨rfl,kq⟩;rw[kq];clear kq w3 Z;exact tq6
    .have rU:=lh (show(true||n.strict)=true from rfl);refine dq ?_;intro K HK;go_wp2_with fail
     refine HK.o _ _ ?_;clear HK K;refine dq ?_;intro K HK;exact tq6
   .have I:=mQ.o;rw[Y5 fZ]at I;have fd:=lh I;clear I mQ;rw[show da X= .iface 44 (vI X) by unfold da;rw[Y3 fZ]];have Dz:=bW;go_wp2_with fail
    refine HK.o _ _ ?_;clear HK K;refine wp_seq_k (λK hK=>?_);clear hK;conv=>arg 2;whnf
    exact AbV
end
