import Derived.Test.YtkjdnecemhilpaaGreatDoorJ17
set_option maxRecDepth 100000
set_option maxHeartbeats 20000000
set_option linter.all false
namespace Go.Proofs.YtkjdnecemhilpaaGreatDoor
open Go Go.RowKit Go.Proofs.Tryz Tryz
def Zih{T:List kB}{k:Nat}{s:kB}(h:T[k]?=some s):XK (T.take k) (T.drop k)=(Lib.containsS (T.take k) s||XK (T.take (k+1)) (T.drop (k+1))):=by
 obtain⟨hk,he⟩:=List.getElem?_eq_some_iff.1 h;rw[Yt hk,List.take_succ_eq_append_getElem hk,he];rfl
def Zig{L V T:List kB}{b:Bool}{k:Nat}{s:kB}(h:T[k]?=some s):XS L V b (T.take k) (T.drop k)=(Lib.containsS L s||(!b&&((T.take k).any (λo=>Zh o s)||Lib.containsS V s))||XS L V b (T.take (k+1)) (T.drop (k+1))):=by
 obtain⟨hk,he⟩:=List.getElem?_eq_some_iff.1 h;rw[Yt hk,List.take_succ_eq_append_getElem hk,he];rfl
structure EsInv(w0:kV)(c:Nat)(l:List kB)(w:kV):Prop where
 cell:∃v,w.heap[c]?=some (.cells #[v] 37 (0,0))/\Zx w (c+1) v l
 bel:kW w0 w
def EsInv.on{w0 w w1:kV}{c:Nat}{l:List kB}(h:EsInv w0 c l w)(g:kW w w1):EsInv w0 c l w1:=by
 obtain⟨v,m,o⟩:=h.cell;exact⟨⟨v,(g.block c (Y1.1 m).1).trans m,o.bel g⟩,h.bel.trans (g.mono h.bel.size)⟩
def EsInv.push{w0 w w1 w2:kV}{c:Nat}{l:List kB}{v v2:Value}{s:kB}(u:w.heap[c]?=some (.cells #[v] 37 (0,0)))(ht:Zx w (c+1) v l)(m:kW w0 w)(hc:w0.heap.size<=c)
 (g:kW w w1)(y:w1.grownBy w2 v.ownBlock)(F:w2.ownsRow (c+1) 9 1 v2 (l.length+1) (l.map Value.string++[.string s])) :
 EsInv w0 c (l++[s]) (w2.setCell ⟨c,0,none⟩ v2)/\∀k,k<w.heap.size->k≠c->v.ownBlock≠some k->(w2.setCell ⟨c,0,none⟩ v2).heap[k]?=w.heap[k]?:=by
 have G:=(Y1.1 u).1;have I:v.ownBlock≠some c:=λe=>by have:=(Y9 ht c e).1;omega
 have step:∀k,k<w.heap.size->v.ownBlock≠some k->w2.heap[k]?=w.heap[k]?:=λk hk J=>(y.block k (Y7 hk g.size) (λe=>J e.symm)).trans (g.block k hk);refine⟨⟨⟨v2,Zk (o:=0) v2 ((step c G I).trans u),?_⟩,?_⟩,λk hk O U=>(Y8 _ _ _ _ O).trans (step k hk U)⟩
 .refine Z3 (Zc5 F) λk hk=>Y8 _ _ _ _ ?_;have:=(Y9 F k hk).1;simp only;omega
 .refine Below.setCell (Below.grown (m.trans (g.mono m.size)) y (Y4 m.size g.size) ?_) (p:=⟨c,0,none⟩) hc _;exact λk hk=>by have:=(Y9 ht k hk).1;omega
def lL.off{w w':kV}{B m c:Nat}{v g o:Value}{L:List ATree}{l:List kB}(h:lL w B v L)(p:w.heap[c]?=some (.cells #[o] 37 (0,0)))(ht:Zx w m g l)
 (hf:∀k,k<w.heap.size->k≠c->g.ownBlock≠some k->w'.heap[k]?=w.heap[k]?):lL w' B v L:=by
 refine Z3 h λk hk=>hf k (Y9 h k hk).2 ?_ ?_
 .intro e;obtain⟨c1,f1,h1⟩:=Lib.ownsRow_kind h k hk;rw[e,p]at h1;simp only[Option.some.injEq,Obj.cells.injEq]at h1;exact absurd h1.2.1 Qg
 .intro e;exact Zy4
theorem lL.slice{w:kV}{B:Nat}{v:Value}{l:List ATree}(h:lL w B v l):∃p m,v=.slice p l.length m/\l.length<=m/\m<=maxLen/\∀(i:Nat) x,l[i]?=some x->∃g,p=some ⟨g,0,none⟩:=by
 exact Aao
def Zx.form2{w:kV}{B:Nat}{v:Value}{l:List kB}(h:Zx w B v l):∃p m,v=.slice p l.length m/\l.length<=m/\m<=maxLen/\∀(i:Nat) x,l[i]?=some x->∃g,p=some ⟨g,0,none⟩:=by
 exact Aao
def Zaj(w:kV)(B:Nat)(a:ATree)(st ins body:Bool)(hT:TreeAt w B a)(hm:a.many<274877906944) :
 kC 47 #[.agg #[.bool st,.bool ins],a.ptr,.bool body] w λe w'=>e=.returned (vI (if EP a body then 9 else 0))/\kW w w':=by
 obtain⟨i0,hi,aC,bj,bJ⟩:=info_parts zq;refine D8 ?_;intro iT;have aY:=Zao a;obtain⟨Z,HL,CT,HV⟩:=gp hT (λW (h:TreeAt W B a)=>YR W B a h Qe) (λW (h:TreeAt W B a)=>ZZ W B a h Qe) (λW (h:TreeAt W B a)=>Z82 W B a h Qe);refine ZK ?_;intro np dt ti fm qY kL;have iX:EP a body=(XK [] (SP a)||XS (SP a) (yi a) body [] (Zbz a)||(yi a).any (λs=>Lib.containsS (SP a) s)):=rfl;obtain⟨P,hP⟩:=zX (a.kids.filter vV)
 obtain⟨Q,hQ⟩:=zX (a.kids.filter xp)
 obtain⟨V,FE⟩:=zX (yi a)
 have AD:SP a=P.map ATree.text:=by rw[hP];rfl
 have JS:Zbz a=Q.map ATree.text:=by rw[hQ];rfl
 rw[AD,JS,<-FE]at iX;rw[<-hP]at dt kL;rw[<-hQ]at np qY;simp only[<-hP]at HL;simp only[<-hQ]at CT;simp only[<-FE]at HV;obtain⟨T,qp⟩:=zX (P.map ATree.text)
 rw[<-qp]at iX;obtain⟨R1,dB⟩:=zX (XK [] T)
 obtain⟨R2,an⟩:=zX (XS T V body [] (Q.map ATree.text))
 rw[<-dB,<-an]at iX;obtain⟨code,aD⟩:∃c:Int,c=if EP a body then 9 else 0:=⟨_,rfl⟩
 rw[<-aD];rw[iX]at aD;obtain⟨kq,fY,bD,i8⟩:=gp aD dB an qp;have hb0:kW w (w.alloc (.cells #[.bool st,.bool ins] 122)):=(Y2 _ _).alloc (Y0 _) _;have gL:EsInv w (w.heap.size+1) [] ((w.alloc (.cells #[.bool st,.bool ins] 122)).alloc (.cells #[.slice none 0 0] 37)):=
  ⟨⟨_,by simpa using(Go.MapKept.heap_alloc (w.alloc (.cells #[.bool st,.bool ins] 122)) (.cells #[.slice none 0 0] 37)).1,Zx.nil _ _⟩,hb0.alloc hb0.size _⟩
 have yc:=lh gL;have AE:a.kids.length<274877906944:=Qe
 clear hT aY ti fm iX aD hP hQ FE AD JS qp dB an hb0 gL;unfold ATree.ptr at HL CT HV ⊢;go_enter func47,ntmps47
 go_wp2_with fail
 refine(HL.o _ (Z.o.bel yc.o.bel)).mono ?_;rintro e w2⟨v2,rfl,cF,aw⟩;have dp:=yc.o.on aw;have cH:=lh dp;obtain⟨zn,En⟩:=zX (((w.alloc (.cells #[.bool st,.bool ins] 122)).alloc (.cells #[.slice none 0 0] 37)).heap.size)
 rw[<-En]at cF;obtain⟨p2,jW,rfl,dI,fR,de⟩:=cF.slice;have N2:=lh cF;have gQ:=lh de;refine OE ?_;intro q cU nq;rw[<-cU]at dI N2 dt ⊢;have HQ1:=lh cU;clear dp cF aw En cU yc de;go_wp2_with fail
 go_loopw [19] (λi wr=>∃(k:Nat),k<=q/\i=(vI k)/\Hid (EsInv w (w.heap.size+1) (T.take k) wr)/\Hid (lL wr zn (.slice p2 q jW) P)/\Hid (XK (T.take k) (T.drop k)=R1)) (λi _=>q-(intOf i).toNat)
 case atStart=>exact⟨0,Yh _,rfl,cH,N2,lh fY.o.symm⟩
 case round=>
  obtain⟨k,hk,rfl,HS,U,HR⟩:=hrel;clear cH N2;by_cases bY:k<q
  .obtain⟨x,hx⟩:∃x,P[k]? =some x:=⟨_,Y6 Qw⟩
   obtain⟨g0,hp⟩:=gQ.o k x hx;subst hp;have cx:=U.o.cell rfl hx;have X:=(Z.o.bel HS.o.bel).kid (kL.o x (Yd hx));have c1:=X.c1;refine Zui ?_;intro v bu be sv;have JT:wr.frozen? ⟨w.heap.size+1,0,none⟩=false:=by simp[World.frozen?,bu]
   have mT:=(Y1.1 bu).1;have ju:=X.lt;have se:T[k]?=some x.text:=by rw[i8.o,Yg,hx];rfl
   have F:=Zih se;rw[HR.o]at F;have cG:(T.take k).length=k:=by rw[List.length_take,i8.o,Ym,<-HQ1.o];omega
   have dy:T.take k++[x.text]=T.take (k+1):=by
    exact Zyq
   obtain⟨pv,nv,cv,rfl⟩:=be.slice;obtain⟨tx,oC⟩:=zX x.text
   rw[<-oC]at c1 F dy;obtain⟨l,hl⟩:=zX (T.take k)
   rw[<-hl]at be F cG dy;have HC:=lh (XU (w:=wr.drew) (Z3 be λk _=>rfl) tx);obtain⟨cb,mi⟩:=zX (Lib.containsS l tx)
   rw[<-mi]at HC F;obtain⟨TX,tX,I,yN,CU⟩:=gq be bu F dy HS.o.bel;have MB:l.length<1099511627776:=Qe
   clear X bu be se F dy oC hl mi hx;go_wp2_with fail
   refine Z7 [0,2,4,6,8] [5] (λW=>vC W (w.heap.size+1) 0 (.slice pv nv cv)/\vC W x.b 1 (.string tx)) ⟨sv,c1⟩ λ_=>?_;refine dS ?_
   iterate 5
    refine dq ?_
   refine Z1 ?_;go_wp2_with fail
   refine HC.o.mono ?_;rintro e w'⟨rfl,Y⟩;rw[Y];clear Y w' HC;cases cb
   .have JU:wr.drew.cell? ⟨w.heap.size+1,0,none⟩=some (.slice pv nv cv):=sv;have c1':wr.drew.cell? ⟨x.b,1,none⟩=some (.string tx):=c1;have MC:wr.drew.frozen? ⟨w.heap.size+1,0,none⟩=false:=JT;go_wp2_with fail
    refine Z7 [0,2,4,6,8,11] [6,7] (λW=>vC W (w.heap.size+1) 0 (.slice pv nv cv)/\vC W x.b 1 (.string tx)) ⟨JU,c1'⟩ λ_=>?_;refine dS ?_
    iterate 5
     refine dq ?_
    refine Ze (λK hK=>?_);go_simp
    refine hK _ _ ⟨(Zb QY).trans JU,(Zb (by show x.b<_;exact ju)).trans c1'⟩ ?_;clear hK K;refine Z1 ?_;have JV:(wr.alloc (.cells #[.string tx] 9)).drew.drew.frozen? ⟨w.heap.size+1,0,none⟩=false:=(TT QY).trans JT;have uU:=TX;unfold Zx at uU;have JW:(wr.alloc (.cells #[.string tx] 9)).drew.drew.ownsRow (w.heap.size+1+1) 9 1 (.slice pv nv cv) l.length (l.map Value.string):=Z3 (uU.o.alloc _) λk _=>rfl;have FG:=lh JW;clear JW
    refine wpList_append_lies _ rfl (.tmp 29) (.tmp 34) 37 rfl (w.heap.size+1+1) 9 i0 (.string ByteArray.empty) 1 16 underlying37 hi aC bj bJ rfl Qg (.slice pv nv cv) l.length (l.map Value.string) rfl FG.o ⟨wr.heap.size,0,none⟩ 1 1 [.string tx] rfl rfl (λj u hu=>cell_one_new wr _ _ j u hu) Qp Qg Qj Qe Qi (wr.heap.size+1) Qm ?_;intro g cap w3 aK av cf fI;have HG:=lh av;have HW:=lh aK
    have aH:(Value.slice pv nv cv).ownBlock≠some (w.heap.size+1):=λe=>by have:=(Y9 TX.o _ e).1;omega
    have Pm:w3.frozen? ⟨w.heap.size+1,0,none⟩=false:=(av.frozen_far ⟨w.heap.size+1,0,none⟩ Qi (λe=>aH e.symm)).trans JV;have Pn:vC w3 (w.heap.size+1) 0 (.slice pv nv cv):=(av.cell_far ⟨w.heap.size+1,0,none⟩ Qi (λe=>aH e.symm)).trans ((Zb (w:=wr) QY).trans sv);clear av aK cf fI aH JV;simp only[Act.put,zA,zB,zC];go_wp2
    have qq:=EsInv.push tX.o TX.o CU.o Qe (((Y2 wr.heap.size wr).alloc (Y0 _) (.cells #[.string tx] 9)).drew.drew) HG.o HW.o;rw[yN.o,cG]at qq;have tY:=lh qq;clear qq;go_roundw
    case rel=>
     refine⟨k+1,by omega,by go_num,lh tY.o.1,lh (U.o.off tX.o TX.o tY.o.2),lh ?_⟩;have p:=I.o;simp only[Bool.false_or]at p;exact p.symm
    case measure=>simp[intOf];omega
   .go_wp2;go_ret;refine⟨?_,CU.o.drew⟩;have p:=I.o;simp only[Bool.true_or]at p;rw[kq.o,p];rfl
  ·have aT : k = q := by omega
   subst aT;have MD:T.length=k:=by rw[i8.o,Ym,<-HQ1.o]
   have aL:EsInv w (w.heap.size+1) T wr:=by
    have:=HS.o;rwa[Ye Qe]at this
   have bB:R1=false:=by
    have:=HR.o;rw[Ye Qe,List.drop_of_length_le Qe]at this;rw[<-this];rfl
   subst bB;have ed:=lh aL;clear aL HS U HR fY MD;go_wp2_with fail
   refine(HV.o _ (Z.o.bel ed.o.bel)).mono ?_;rintro e w4⟨vv,rfl,tZ,fq,dr⟩;obtain⟨pv,CV,rfl,CW,FH,iL⟩:=tZ.form2;have iZ:=ed.o.on fq;have nB:=lh iZ;have FJ:=lh tZ;obtain⟨zv,eS⟩:=zX wr.heap.size
   rw[<-eS]at FJ;clear tZ fq iZ ed HV eS;go_wp2_with fail
   refine(CT.o _ (Z.o.bel nB.o.bel)).mono ?_;rintro e w5⟨v5,rfl,hZ,gI⟩;obtain⟨p5,rg,rfl,jo,mU,gD⟩:=hZ.slice;obtain⟨lA,vW,N5,iu⟩:=gp (nB.o.on gI) (FJ.o.bel gI) hZ gD;obtain⟨zf,AF⟩:=zX w4.heap.size
   rw[<-AF]at N5;obtain⟨m,fd⟩:=zX Q.length
   have EA:m<=9223372036854775807:=by unfold maxLen at mU;omega
   rw[<-fd]at jo N5 np ⊢;have bX:=lh fd;have pE:=lh iL;obtain⟨nV,FK⟩:=zX V.length
   rw[<-FK]at CW vW dr ⊢;have AC:=lh FK;clear hZ gI gD AF fd iL nB FJ FK;go_wp2_with fail
   go_loopw [42] (λi wr=>∃(k:Nat),k<=m/\i=(vI k)/\Hid (EsInv w (w.heap.size+1) T wr)/\Hid (Zx wr zv (.slice pv nV CV) V)/\Hid (lL wr zf (.slice p5 m rg) Q)/\Hid (XS T V body ((Q.map ATree.text).take k) ((Q.map ATree.text).drop k)=R2)) (λi _=>m-(intOf i).toNat)
   case atStart=>exact⟨0,Yh _,rfl,lA,vW,N5,lh bD.o.symm⟩
   case round=>
    obtain⟨k,hk,rfl,HS,TV,U,HR⟩:=hrel;clear lA vW N5;by_cases bY:k<m
    .obtain⟨x,hx⟩:∃x,Q[k]? =some x:=⟨_,Y6 Se⟩
     obtain⟨g0,hp⟩:=iu.o k x hx;subst hp;have cx:=U.o.cell rfl hx;have X:=(Z.o.bel HS.o.bel).kid (qY.o x (Yd hx));have c1:=X.c1;refine Zui ?_;intro v bu be sv;have mT:=(Y1.1 bu).1;have ju:=X.lt;have se:(Q.map ATree.text)[k]?=some x.text:=RD
     have F:=Zig (L:=T) (V:=V) (b:=body) se;rw[HR.o]at F;obtain⟨ps,ns,cs,rfl⟩:=be.slice;obtain⟨tx,oC⟩:=zX x.text
     rw[<-oC]at c1 F;have ei:kW wr (wr.alloc (.cells #[vP x.b] 22)):=(Y2 _ _).alloc (Y0 _) _;have HC:=lh (XU (w:=(wr.alloc (.cells #[vP x.b] 22)).drew) (be.bel ei.drew) tx);obtain⟨cb,mi⟩:=zX (Lib.containsS T tx)
     rw[<-mi]at HC F;have qr:((Q.map ATree.text).take k).any (λo=>Zh o tx)=(Q.take k).any (λo=>Zh o.text tx):=by
      rw[<-List.map_take,List.any_map];rfl
     rw[qr]at F;obtain⟨I,TX,t8,eL,FL,HX⟩:=gw F be ei X oC hx;have JX:(wr.alloc (.cells #[vP x.b] 22)).cell? ⟨w.heap.size+1,0,none⟩=some (.slice ps ns cs):=(Zb QY).trans sv;have JY:(wr.alloc (.cells #[vP x.b] 22)).cell? ⟨x.b,1,none⟩=some (.string tx):=(Zb (by show x.b<_;exact ju)).trans c1
     have FM:(wr.alloc (.cells #[vP x.b] 22)).cell? ⟨wr.heap.size,0,none⟩=some (vP x.b):=Qm
     clear X bu be se F oC mi hx qr ei;go_wp2_with fail
     refine Z7 [0,2,4,6,8] [5] (λW=>vC W (w.heap.size+1) 0 (.slice ps ns cs)/\vC W wr.heap.size 0 (vP x.b)/\vC W x.b 1 (.string tx)) ⟨JX,FM,JY⟩ λ_=>?_;refine dS ?_
     iterate 5
      refine dq ?_
     refine Z1 ?_;go_wp2_with fail
     refine HC.o.mono ?_;rintro e w'⟨rfl,Y⟩;rw[Y];clear Y w' HC;cases cb
     .have mn:=lh (Z.o.bel ((HS.o.on t8.o.drew).bel));go_wp2_with fail
      refine(CT.o _ mn.o).mono ?_;rintro e J⟨v6,rfl,vE,jV⟩;obtain⟨p6,FN,rfl,FO,FP,AG⟩:=vE.slice;obtain⟨g6,rfl⟩:=AG k x HX.o;rw[<-bX.o]at FO ⊢;have jp:kW wr J:=t8.o.drew.trans (jV.mono t8.o.drew.size);obtain⟨pI,JZ,J0,yd⟩:=gp (HS.o.on jp) (TV.o.bel jp) (U.o.bel jp) jp;have uc:vC J x.b 1 (.string tx):=(Yb (jp.block x.b ju)).trans c1
      have FS:vC J wr.heap.size 0 (vP x.b):=(Yb (jV.block wr.heap.size (by show wr.heap.size<(wr.alloc _).heap.size;simp))).trans FM;have fm:(Q.take k).length=k:=by rw[List.length_take,<-bX.o];omega
      have FT:=(Y9 vE g6 rfl).2;have xW:TreeAt J B x:=eL.o.bel jp;have sH:wr.heap.size<J.heap.size:=by
       have:=jV.size;have h2:(wr.alloc (.cells #[vP x.b] 22)).drew.heap.size=wr.heap.size+1:=Qm
       omega
      have kX:=Zvi ⟨wr.heap.size,0,none⟩ ATree.ptr (λo=>Zh o.text tx) (Below J.heap.size J) (some ⟨g6,0,none⟩) FN (Q.take k) J Qe Qe
       (fun i y hy => ⟨g6, 0, rfl, fun w1 h => by
        rw[Nat.zero_add];have hq:Q[i]?=some y:=by
         rw[List.getElem?_take]at hy;split at hy;·exact hy
         .cases hy
        exact(Yb (h.block g6 FT)).trans (vE.cell rfl hq)⟩)
       (fun y hy w1 h => by
        have ME:y∈Q:=List.mem_of_mem_take hy;have MF:TreeAt w1 B y:=((Z.o.bel pI.o.bel).kid (qY.o y ME)).bel h;rw[FL.o];exact(Zjx w1 B wr.heap.size y x MF (xW.bel h) ((Yb (h.block wr.heap.size sH)).trans FS)).mono λe w2 ⟨p,h2⟩=>⟨p,h.trans (h2.mono h.size)⟩)
       (Y2 _ _)
      rw[fm]at kX;have nM:=lh kX;obtain⟨ag,AH⟩:=zX ((Q.take k).any (λo=>Zh o.text tx))
      rw[<-AH]at nM I;have CX:k<=FN:=Qe
      have MG:(k:Int)<=(FN:Int):=Qe
      have J1:(k:Int)<=(m:Int):=Qe
      unfold maxLen at FP;clear vE jV AG kX AH fm xW jp;go_wp2_with fail
      refine nM.o.mono ?_;rintro e w7⟨rfl,O⟩;obtain⟨lz,FU,J2⟩:=ds (pI.o.on O) (JZ.o.bel O) (J0.o.bel O);have FV:x.b<J.heap.size:=Y7 ju yd.o.size;have Po:vC w7 x.b 1 (.string tx):=(Yb (O.block x.b FV)).trans uc;have Pp:vC w7 wr.heap.size 0 (vP x.b):=(Yb (O.block wr.heap.size sH)).trans FS;clear O nM pI JZ J0 HS TV U uc FS c1 FM JY JX sv;cases body
      .cases ag
       .have lV:=lh (XU FU.o tx);obtain⟨MH,iR⟩:=zX (Lib.containsS V tx)
        rw[<-iR]at lV I;clear iR;go_wp2_with fail
        refine lV.o.mono ?_;rintro e w'⟨rfl,Y⟩;rw[Y];clear Y w' lV;cases MH
        .go_wp2;go_roundw
         case rel=>
          have p:=I.o;simp only[Bool.not_false,Bool.true_and,Bool.or_self,Bool.false_or]at p;exact⟨k+1,by omega,by go_num,lz,FU,J2,lh p.symm⟩
         case measure=>simp[intOf];omega
        .go_wp2;go_ret;refine⟨?_,lz.o.bel⟩;have p:=I.o;simp only[Bool.not_false,Bool.true_and,Bool.or_true,Bool.true_or]at p;rw[kq.o,p];rfl
       .go_wp2;go_ret;refine⟨?_,lz.o.bel⟩;have p:=I.o;simp only[Bool.not_false,Bool.true_and,Bool.or_true,Bool.true_or]at p;rw[kq.o,p];rfl
      .go_wp2;go_roundw
       case rel=>
        have p:=I.o;simp only[Bool.not_true,Bool.false_and,Bool.or_self,Bool.false_or]at p;exact⟨k+1,by omega,by go_num,lz,FU,J2,lh p.symm⟩
       case measure=>simp[intOf];omega
     .go_wp2;go_ret;refine⟨?_,(HS.o.on t8.o.drew).bel⟩;have p:=I.o;simp only[Bool.true_or]at p;rw[kq.o,p];rfl
    .have aT:k=m:=by omega
     subst aT;have hr2:R2=false:=by
      have:=HR.o;have hl:(Q.map ATree.text).length=k:=by rw[Ym,<-bX.o]
      rw[Ye Qe,List.drop_of_length_le Qe]at this;rw[<-this];rfl
     subst hr2;refine Zui ?_;intro v bu be sv;have mT:=(Y1.1 bu).1;have J3:∀g,pv=some ⟨g,0,none⟩->g<wr.heap.size:=λg h=>(Y9 TV.o g (by rw[h];rfl)).2
     have kX:=Zy8 ⟨w.heap.size+1,0,none⟩ Value.string (λs=>Lib.containsS T s) (Below wr.heap.size wr) pv CV V wr (by unfold maxLen at FH;rw[<-AC.o];omega) (by rw[<-AC.o];exact CW)
      (fun i y hy => by
       obtain⟨g,hg⟩:=pE.o i y hy;refine⟨g,0,hg,λw1 h=>?_⟩;rw[Nat.zero_add];exact(Yb (h.block g (J3 g hg))).trans (TV.o.cells (by rw[hg];rfl) hy))
      (λy hy w1 h=>(Zit w1 (w.heap.size+1+1) (w.heap.size+1) v T y (be.bel h) ((Yb (h.block _ mT)).trans sv)).mono λe w2 ⟨p,h2⟩=>⟨p,by rw[h2];exact h⟩)
      (Y2 _ _)
     rw[<-AC.o]at kX;have nM:=lh kX;obtain⟨r3,df⟩:=zX (V.any (λs=>Lib.containsS T s))
     rw[<-df]at nM kq;have CU:=lh HS.o.bel;clear bu be kX df J3 HS TV U HR bD;go_wp2_with fail
     refine nM.o.mono ?_;rintro e w7⟨rfl,O⟩;have mV:=zT CU O;clear O nM;cases r3
     .go_wp2;go_ret;exact⟨by rw[kq.o];rfl,mV.o⟩
     .go_wp2;go_ret;exact⟨by rw[kq.o];rfl,mV.o⟩
def ATree.free(M:MRep)(a:ATree):Prop:=∀k∈a.blocks,¬M.has k
section
variable {C:RCtx}{M M':MRep}{w w' wA w1:kV}{s s':MSt}{B:Nat}{a:ATree}
def MFr.tree(f:MFr M M' w w')(h:TreeAt w B a)(hf:a.free M):TreeAt w' B a/\a.free M':=
 ⟨h.keepB λk hk=>f.block k (h.has k hk).2 (hf k hk),λk hk=>f.free k (h.has k hk).2 (hf k hk)⟩
def MFr.nodes(f:MFr M M' w w'){z:Nat}{v:Value}{l:List ATree}(h:lL w z v l)(hf:∀g,v.ownBlock=some g->¬M.has g):lL w' z v l:=
 Z3 h λg m=>f.block g (Y9 h g m).2 (hf g m)
def ATree.free.kid(hf:a.free M){x:ATree}(hx:x∈a.kids):x.free M:=by
 intro k hk;refine hf k ?_;obtain⟨b,v,g,t,n,l⟩:=a;simp only[ATree.blocks,List.mem_cons,List.mem_append,XT];exact .inr (.inr (List.mem_flatMap.2 ⟨x,hx,hk⟩))
def Inv.lens{d:Nat}(h:Inv s d):(∀(m:Nat) (c:LScope),s.H.scopes[m]?=some c->c.names.length<1099511627776)/\(∀(m:Nat) (o:LObj),s.H.objects[m]?=some o->o.props.length<1099511627776)/\
 s.H.scopes.length<1000000000/\s.H.objects.length<1000000000/\s.owners.length<1000000000/\s.clos.length<1000000000/\s.log.length<1000000000/\s.seen.length<1000000000:=by
 have p:=h.steps;have u:=h.szO;have y:=h.szS;have F:=h.szC;have G:=h.szL;have h5:=h.szN;have I:=h.own;refine⟨λm c g=>?_,λm o g=>?_,by omega,by omega,by omega,by omega,by omega,by omega⟩
 .have:=(h.scp c (Yd g)).2.2.2;omega
 .have:=(h.obj o (Yd g)).2.2.2;omega
def Zkx{N:Nat->Int}{P:List ATree}{k:Nat}{x:ATree}{sc:Int}(hx:P[k]?=some x) :
 s.lets ((P.take (k+1)).map (ATree.nt N)) sc=(s.lets ((P.take k).map (ATree.nt N)) sc).declare sc x.text (if x.kind=4 then 2 else 1) LVal.zero:=by
 obtain⟨g,m⟩:=List.getElem?_eq_some_iff.1 hx;unfold MSt.lets;rw[List.take_succ_eq_append_getElem g,m,Yl,List.foldl_append];show MSt.declare _ _ (x.nt N).text (if(x.nt N).kind=4 then 2 else 1) _=_;rw[sw,Za]
def Z81(h:MAt C M w s){d:Nat}(hI:Inv s (d+a.kids.length))(X:TreeAt w B a)(hf:a.free M)(hn:a.kids.length<1099511627776)(sc:Int) :
 kC 25 #[vP C.mb,a.ptr,vI sc] w λe w'=>e=.returned (.tuple #[])/\
  ∃M',MAt C M' w' (s.lets (a.nt C.N).lets sc)/\MFr M M' w w':=by
 have HL:=lh (YR w B a X hn);rw[Z9k];obtain⟨P,hP⟩:=zX (a.kids.filter vV)
 rw[<-hP]at HL ⊢;have vX:P.length<=a.kids.length:=RW
 refine Zp7 ?_;intro nr;obtain⟨HM,HI,HT,HF,mS⟩:=gq h hI X hf vX;clear h hI X hf hP vX;unfold ATree.ptr at HL ⊢;go_enter func25,ntmps25
 go_wp2_with fail
 refine HL.o.mono ?_;rintro e w2⟨v2,rfl,u,O⟩;have aO:=HM.o.below O;obtain⟨p2,jW,rfl,dI,fR,de⟩:=u.slice;have Y:∀g,(Value.slice p2 P.length jW).ownBlock=some g->¬M.has g:=λg hg=>HM.o.fresh (Y9 u g hg).1;refine OE ?_;intro q cU nq;rw[<-cU]at dI u Y ⊢;obtain⟨N2,kN,gQ,HQ1,bU,aP,gz⟩:=kF u Y de cU aO O (HT.o.bel O);clear u O aO Y de cU HL HT;go_wp2_with fail
 go_loopw [12] (λi wr=>∃(k:Nat) (M1:MRep),k<=q/\i=(vI k)/\Hid (MAt C M1 wr (s.lets ((P.take k).map (ATree.nt C.N)) sc))/\Hid (MFr M M1 w2 wr)) (λi _=>q-(intOf i).toNat)
 case atStart=>exact⟨0,M,Yh _,rfl,bU,lh (MFr.refl _ _)⟩
 case round=>
  obtain⟨k,M1,hk,rfl,U,y⟩:=hrel;by_cases bY:k<q
  .obtain⟨x,hx⟩:∃x,P[k]? =some x:=⟨_,Y6 Qw⟩
   obtain⟨g0,hp⟩:=gQ.o k x hx;subst hp;have Z:=nr.o x (Yd hx);have cx:=(y.o.nodes N2.o kN.o).cell rfl hx;obtain⟨eA,MI⟩:=y.o.tree (gz.o.kid Z) (HF.o.kid Z);have c0:=eA.c0;have c1:=eA.c1;have J4:=(Wi (s:=s) (sc:=sc) (l:=(P.take k).map (ATree.nt C.N)) (d:=0) (HI.o.less (by rw[Ym,List.length_take];have:=mS.o;omega))).1;have m:=lh (Zae U.o.drew.heap sc x.text (if x.kind=4 then 2 else 1) LVal.zero J4.lens.1);have ye:=lh (Zkx (s:=s) (N:=C.N) (sc:=sc) hx);clear eA MI Z J4
   by_cases p:x.kind=4
   .rw[p]at c0;rw[Y5 p]at m;go_wp2_with fail
    refine Z7 [0,2,4,6,8,10,12,14,16,18] [10] (λW=>vC W x.b 1 (.string x.text)) c1 λ_=>?_;refine dS ?_
    iterate 10
     refine dq ?_
    refine Z1 ?_;go_wp2_with fail
    refine m.o.mono ?_;rintro e w3⟨rfl,ρ',L',F,I⟩;obtain⟨J,a2⟩:=U.o.drew.heapStep F I;have o5:=lh J;have o6:=lh ((MFr.drew (.refl M1 wr)).trans a2);clear J a2 F I m;go_wp2_with fail
    go_roundw
    case rel=>
     refine⟨k+1,_,by omega,by go_num,lh ?_,lh (y.o.trans o6.o)⟩;have e:=ye.o;rw[Y5 p]at e;rw[e];exact o5.o
    case measure=>simp[intOf];omega
   .have b4:(x.kind==4)=false:=by simp[p]
    rw[Y3 p]at m;go_wp2_with fail
    refine Z7 [0,2,4,6,8,10,12,14,16,18] [10] (λW=>vC W x.b 1 (.string x.text)) c1 λ_=>?_;refine dS ?_
    iterate 10
     refine dq ?_
    refine Z1 ?_;go_wp2_with fail
    refine m.o.mono ?_;rintro e w3⟨rfl,ρ',L',F,I⟩;obtain⟨J,a2⟩:=U.o.drew.heapStep F I;have o5:=lh J;have o6:=lh ((MFr.drew (.refl M1 wr)).trans a2);clear J a2 F I m;go_wp2_with fail
    go_roundw
    case rel=>
     refine⟨k+1,_,by omega,by go_num,lh ?_,lh (y.o.trans o6.o)⟩;have e:=ye.o;rw[Y3 p]at e;rw[e];exact o5.o
    case measure=>simp[intOf];omega
  .have aT:k=q:=by omega
   subst aT;go_wp2;go_end0
   refine⟨rfl,M1,?_,(MFr.of_below aP.o).trans y.o⟩;have:=U.o;rwa[Ye Q4]at this
def TreeAt.typed(h:TreeAt w B a):∀k∈a.blocks,∃c T f,w.heap[k]?=some (.cells c T f)/\(T=28\/T=22):=by
 induction h with
 | @mk b v kind text n kids blk le row m o=>
   intro k hk;simp only[ATree.blocks,List.mem_cons,List.mem_append,XT,List.mem_flatMap]at hk;rcases hk with rfl|hk|⟨x,hx,hk⟩;·exact⟨_,_,_,blk,.inl rfl⟩
   .rcases row.2 with⟨rfl,_⟩|⟨g,cap,u,rfl,_,p,_⟩;·simp[Value.ownBlock]at hk
    .simp only[Value.ownBlock,Option.mem_toList,Option.some.injEq]at hk;subst hk;exact⟨_,_,_,p,.inr rfl⟩
   .exact o x hx k hk
def MAt.aside(h:MAt C M w s){b:Nat}{c:Array Value}{T:TypeId}{f:Nat×Nat}(hb:w.heap[b]?=some (.cells c T f))(F:T≠28)(I:T≠22)(hf:¬M.has b)(J:C.w0.heap.size<=b)
 (hs:w'.heap.size=w.heap.size)(hk:∀k,k≠b->w'.heap[k]?=w.heap[k]?)(ho:w'.os=w.os)(ht:w'.tape=w.tape)(hp:w'.output=w.output):MAt C M w' s where
 heap:=h.heap.keep (Nat.le_of_eq hs.symm) λk hr=>hk k λe=>hf (.inl (e▸hr))
 cell o x hx:=(Yb (hk _ λe=>hf (e▸h.mbHas))).trans (h.cell o x hx)
 rcell i hi:=(Yb (hk _ λe=>hf (e▸h.mbHas))).trans (h.rcell i hi)
 fz o:=(Yn (hk _ λe=>hf (e▸h.mbHas))).trans (h.fz o)
 rows i hi:=Z3 (h.rows i hi) λg p=>hk g λe=>hf (.inr ⟨i,hi,e▸p⟩)
 rfree i hi g p:=⟨(h.rfree i hi g p).1,by rw[hs];exact(h.rfree i hi g p).2⟩
 rdist:=h.rdist
 clos:=h.clos
 trees x hx:=⟨(h.trees x hx).1.keepB λk u=>hk k λe=>by
  obtain⟨c',T',O,y,m⟩:=(h.trees x hx).1.typed k u;rw[e,hb]at y;cases y;rcases m with m|m;·exact F m
  .exact I m,(h.trees x hx).2⟩
 old:=⟨ho.trans h.old.os,ht.trans h.old.tape,hp.trans h.old.output,Y4 h.old.size (Nat.le_of_eq hs.symm),λk u=>(hk k Qe).trans (h.old.block k u)⟩
 far:=h.far
def MAt.local{b:Nat}{c:Array Value}{T:TypeId}{f:Nat×Nat}{o:Nat}{v:Value}(h:MAt C M w s)(hb:w.heap[b]?=some (.cells c T f))(g:T≠28)(m:T≠22)(hf:¬M.has b)(p:C.w0.heap.size<=b) :
 MAt C M (w.setCell ⟨b,o,none⟩ v) s:=
 h.aside hb g m hf p QJ (λk hk=>Y8 _ _ _ _ hk) rfl rfl rfl
end
section
variable {ρ:Nat->Option Role}{w:kV}{hb ho:Nat}{L:HL}{H:LHeap}
def Z6b(h:HeapAt ρ w hb ho L H)(n:Int) :
 kC 125 #[.pointer (some ⟨hb,ho,none⟩),vI n] w λe w'=>e=.returned (vI (H.objectOf n))/\w'=w:=by
 unfold LHeap.objectOf;rcases hob:H.scope? n with _|o
 .have HC:=lh (WI h n hob);clear h hob;go_enter func125,ntmps125
  exact Lu
 .obtain⟨m,rfl,g⟩:=LHeap.scope?_some hob;have HC:=lh (UY h m (getElem?_lt g));have hc:w.cell? ⟨L.sb m,1,none⟩=some (vI o.object):=by have :=(h.scp m o g).1;simp[vC,World.cell?,this]
  clear h hob g;go_enter func125,ntmps125
  exact Lu
def Zg3(h:HeapAt ρ w hb ho L H)(n:Int) :
 kC 157 #[.pointer (some ⟨hb,ho,none⟩),vI n] w λe w'=>e=.returned (vI (H.outerOf n))/\w'=w:=by
 unfold LHeap.outerOf;rcases hob:H.scope? n with _|o
 .have HC:=lh (WI h n hob);clear h hob;go_enter func157,ntmps157
  exact Lu
 .obtain⟨m,rfl,g⟩:=LHeap.scope?_some hob;have HC:=lh (UY h m (getElem?_lt g));have hc:w.cell? ⟨L.sb m,0,none⟩=some (vI o.outer):=by have :=(h.scp m o g).1;simp[vC,World.cell?,this]
  clear h hob g;go_enter func157,ntmps157
  exact Lu
def Ziy(h:HeapAt ρ w hb ho L H)(n:Int)(name:kB) :
 kC 158 #[.pointer (some ⟨hb,ho,none⟩),vI n,.string name] w λe w'=>e=.returned (vI (H.kindOf n name))/\kW w w':=by
 rcases hob:H.scope? n with _|s
 .have HC:=lh (WI h n hob);have e:H.kindOf n name= -1:=by simp[LHeap.kindOf,hob]
  rw[e];clear h hob e;go_enter func158,ntmps158
  exact Zsm
 .obtain⟨m,rfl,u⟩:=LHeap.scope?_some hob;have HC:=lh (UY h m (getElem?_lt u));have hc:w.cell? ⟨L.sb m,1,none⟩=some (vI s.object):=by have :=(h.scp m s u).1;simp[vC,World.cell?,this]
  by_cases aW:s.object<0
  .have y:=lh (λw1 (Y:kW w w1)=>Z6v (h.below Y) m s u name);have hn0:decide (0<=s.object)=false:=by simp;omega
   rcases hk:s.idx name with _|k
   .have e:H.kindOf m name= -1:=by simp only[LHeap.kindOf,hob,if_neg (Int.not_le.2 aW),hk,Option.bind_none]
    rw[e];rw[hk]at y;simp only[TM]at y;generalize s.object=O at *;clear h hob e u hk;go_enter func158,ntmps158
    go_wp2_with fail
    refine HC.o.mono ?_;rintro e w1⟨rfl,rfl⟩;go_wp2_with fail
    refine(y.o _ (Y2 _ _)).mono ?_;rintro e w1⟨rfl,o⟩;have F:=lh o;clear o;go_wp2;go_ret;exact⟨rfl,F.o⟩
   .obtain⟨b,I,_⟩:=LScope.idx_some hk;have e:H.kindOf m name=b.kind:=by simp only[LHeap.kindOf,hob,if_neg (Int.not_le.2 aW),hk,Option.bind_some,I]
    rw[e];have J:=(h.scp m s u).2;rcases Z4 J with⟨hv,hz⟩|⟨g,c,hv,Z,h2,cX⟩;·have:=getElem?_lt I;omega
    have U:=SV (f:=LBind.cells) (m:=6) (λ_=>rfl) J (g:=g) QB (i:=k) (j:=4) I rfl;rw[hk,hv]at y;simp only[TM,Value.ownBlock,Option.map_some]at y;generalize s.object=O at *;generalize b.kind=kd at *;have HR:=lh U;clear h hob e u hk I J hv Z h2 U;go_enter func158,ntmps158
    go_wp2_with fail
    refine HC.o.mono ?_;rintro e w1⟨rfl,rfl⟩;go_wp2_with fail
    refine(y.o _ (Y2 _ _)).mono ?_;rintro e w1⟨rfl,o⟩;have F:=lh o;clear o;go_wp2_with fail
    refine(y.o _ F.o).mono ?_;rintro e w2⟨rfl,o⟩;have X:=zT F o;have hr:w2.cell? ⟨g,k*6+4,none⟩=some (vI kd):=(X.o.cell (p:=⟨g,k*6+4,none⟩) cX).trans HR.o;clear o;go_wp2;go_ret;exact⟨rfl,X.o⟩
  .have e:H.kindOf m name= -1:=by simp only[LHeap.kindOf,hob,if_pos (Int.not_lt.1 aW)]
   rw[e];have hn0:decide (0<=s.object)=true:=Qi
   generalize s.object=O at *;clear h hob e u;go_enter func158,ntmps158
   exact Zsm
end
def Does(C:RCtx)(M:MRep)(w:kV)(s':MSt)(w':kV):Prop:=∃M',MAt C M' w' s'/\MFr M M' w w'
section
variable {C:RCtx}{M M' sE:MRep}{w w' dN:kV}{s s':MSt}
theorem MFr.cell(f:MFr M M' w w'){b o:Nat}(hb:b<w.heap.size)(hn:¬M.has b):w'.cell? ⟨b,o,none⟩=w.cell? ⟨b,o,none⟩:=Yb (f.block b hb hn)
def MFr.does(f:MFr M M' w w')(h:Does C M' w' s' dN):Does C M w s' dN:=by
 obtain⟨M1,g,m⟩:=h;exact⟨M1,g,f.trans m⟩
theorem MAt.does(h:MAt C M w s)(g:kW w w'):Does C M w s w':=⟨M,h.below g,.of_below g⟩
theorem Does.step{ρ':Nat->Option Role}{o:HL}{m:LHeap}(h:MAt C M w s)(g:HeapAt ρ' w' C.mb 0 o m)(f:Fr M.ρ ρ' C.mb 0 w w'):Does C M w (s.setH m) w':=⟨_,h.heapStep g f⟩
variable (h:MAt C M w s){d:Nat}(hI:Inv s d)
include h
theorem VU(n:Int)(name:kB):kC 24 #[vP C.mb,vI n,.string name] w λe w'=>e=.returned (.bool (s.H.has n name))/\kW w w':=Vu h.heap n name
theorem Abf(n:Int)(name:kB):kC 121 #[vP C.mb,vI n,.string name] w λe w'=>e=.returned (.tuple #[(s.H.read n name).1.agg,cL (s.H.read n name).2])/\kW w w':=Zq4 h.heap n name
theorem AcR(n:Int)(name:kB):kC 57 #[vP C.mb,vI n,.string name] w λe w'=>e=.returned (.tuple #[((s.H.get n name).getD LVal.zero).agg,.bool (s.H.get n name).isSome])/\kW w w':=Zgy h.heap n name
theorem Zxu(n:Int):kC 65 #[vP C.mb,vI n] w λe w'=>e=.returned (vI (s.H.code n))/\w'=w:=Zhx h.heap n
def Abl(n:Int)(name:kB):kC 140 #[vP C.mb,vI n,.string name] w λe w'=>e=.returned (.bool (s.H.drop n name).2)/\Does C M w (s.setH (s.H.drop n name).1) w':=
 (Zpq h.heap n name).mono λe w' ⟨he,ρ',m,g,f⟩=>⟨he,.step h g f⟩
def AcM(n:Int)(name:kB):kC 141 #[vP C.mb,vI n,.string name] w λe w'=>e=.returned (.bool (s.H.cut n name).2)/\Does C M w (s.setH (s.H.cut n name).1) w':=
 (Zn2 h.heap n name).mono λe w' ⟨he,ρ',m,g,f⟩=>⟨he,.step h g f⟩
def Zr6(n:Int)(name:kB)(v:LVal):kC 97 #[vP C.mb,vI n,.string name,v.agg] w λe w'=>e=.returned (cL (s.H.start n name v).2)/\Does C M w (s.setH (s.H.start n name v).1) w':=
 (Zl9 h.heap n name v).mono λe w' ⟨he,ρ',m,g,f⟩=>⟨he,.step h g f⟩
include hI
def zG(n:Int)(name:kB)(v:LVal)(fixed:Bool):kC 20 #[vP C.mb,vI n,.string name,v.agg,.bool fixed] w λe w'=>e=.returned (cL (s.H.put n name v fixed).2)/\Does C M w (s.put n name v fixed) w':=
 (Zl1 h.heap n name v fixed hI.lens.2.1).mono λe w' ⟨he,ρ',m,g,f⟩=>⟨he,.step h g f⟩
def Zf2(n:Int)(name:kB)(v:LVal):kC 126 #[vP C.mb,vI n,.string name,v.agg] w λe w'=>e=.returned (cL (s.H.write n name v).2)/\Does C M w (s.write n name v) w':=
 (Zmp h.heap n name v hI.lens.2.1).mono λe w' ⟨he,ρ',m,g,f⟩=>⟨he,.step h g f⟩
def Wm(n:Int)(name:kB)(kind:Int)(v:LVal):kC 60 #[vP C.mb,vI n,.string name,vI kind,v.agg] w λe w'=>e=.returned (cL (s.H.declare n name kind v).2)/\Does C M w (s.declare n name kind v) w':=
 (Zae h.heap n name kind v hI.lens.1).mono λe w' ⟨he,ρ',m,g,f⟩=>⟨he,.step h g f⟩
def Zaf(code:Int):kC 19 #[vP C.mb,vI code] w λe w'=>e=.returned (vI s.nextO)/\Does C M w (s.object code) w':=
 (Z88 h.heap code (by have:=hI.lens.2.2.2.1;omega)).mono λe w' ⟨he,ρ',m,g,f⟩=>⟨he,.step h g f⟩
def Wp(outer object owner:Int):kC 21 #[vP C.mb,vI outer,vI object,vI owner] w λe w'=>e=.returned (vI s.next)/\Does C M w (s.opens outer object owner) w':=
 (Zqt h outer object owner hI.lens.2.2.1 hI.lens.2.2.2.2.1).mono λe w' ⟨he,M',g,m⟩=>⟨he,M',g,m⟩
end
structure Lo(C:RCtx)(M:MRep)(wE w:kV)(b:Nat)(c:Array Value)(T:TypeId):Prop where
 blk:w.heap[b]?=some (.cells c T (0,0))
 free:¬M.has b
 late:wE.heap.size<=b
 old:C.w0.heap.size<=wE.heap.size
section
variable {C:RCtx}{M M' sE:MRep}{w w' dN wE:kV}{s s':MSt}{b:Nat}{c:Array Value}{T:TypeId}
theorem Lo.lt(h:Lo C M wE w b c T):b<w.heap.size:=(Y1.1 h.blk).1
theorem Lo.fr(h:Lo C M wE w b c T)(f:MFr M M' w w'):Lo C M' wE w' b c T:=⟨(f.block b h.lt h.free).trans h.blk,f.free b h.lt h.free,h.late,h.old⟩
theorem Lo.cell(h:Lo C M wE w b c T){i:Nat}{x:Value}(hx:c[i]?=some x):w.cell? ⟨b,i,none⟩=some x:=by simp[vC,World.cell?,h.blk,hx]
theorem Lo.fz(h:Lo C M wE w b c T)(i:Nat):w.frozen? ⟨b,i,none⟩=false:=by simp[World.frozen?,h.blk]
theorem Lo.bel(h:Lo C M wE w b c T)(g:kW w w'):Lo C M wE w' b c T:=h.fr (.of_below g)
theorem Lo.new(h:MAt C M w s)(g:wE.heap.size<=w.heap.size)(m:C.w0.heap.size<=wE.heap.size)(c:Array Value)(T:TypeId):Lo C M wE (w.alloc (.cells c T)) w.heap.size c T:=⟨Yq w _,h.fresh (Y0 _),g,m⟩
def Lo.six{x y z:Value}(h:Lo C M wE w b #[x,y,z] T):vC w b 0 x/\vC w b 1 y/\vC w b 2 z/\w.frozen? ⟨b,0,none⟩=false/\w.frozen? ⟨b,1,none⟩=false/\w.frozen? ⟨b,2,none⟩=false:=
 ⟨h.cell rfl,h.cell rfl,h.cell rfl,h.fz 0,h.fz 1,h.fz 2⟩
theorem Lo.two{x y:Value}(h:Lo C M wE w b #[x,y] T):vC w b 0 x/\vC w b 1 y:=⟨h.cell rfl,h.cell rfl⟩
def Lo.put(h:Lo C M wE w b c T)(m:MAt C M w s)(g:MFr sE M wE w)(o:T≠28)(p:T≠22)(i:Nat)(x:Value) :
 MAt C M (w.setCell ⟨b,i,none⟩ x) s/\MFr sE M wE (w.setCell ⟨b,i,none⟩ x)/\Lo C M wE (w.setCell ⟨b,i,none⟩ x) b (c.setIfInBounds i x) T:=by
 have hs:(w.setCell ⟨b,i,none⟩ x).heap.size=w.heap.size:=QJ
 have hk:∀k,k≠b->(w.setCell ⟨b,i,none⟩ x).heap[k]?=w.heap[k]?:=λk hk=>Y8 _ _ _ _ hk;refine⟨m.local h.blk o p h.free (Y4 h.old h.late),⟨g.os,g.tape,g.output,by rw[hs];exact g.size,λk u hf=>(hk k (by have:=h.late;omega)).trans (g.block k u hf),g.free⟩,⟨?_,h.free,h.late,h.old⟩⟩;have:=h.blk;simp[World.setCell,Array.getElem?_modify,this]
def Lo.beside{b':Nat}{c':Array Value}{T':TypeId}(h:Lo C M wE w b c T)(g:b≠b')(i:Nat)(x:Value):Lo C M wE (w.setCell ⟨b',i,none⟩ x) b c T:=
 ⟨(Y8 _ _ _ _ g).trans h.blk,h.free,h.late,h.old⟩
end
def sN(b:Nat):Value:=.iface 86 (vP b)
def LVal.arr(v:LVal):Array Value:=#[vI v.kind,vI v.n,.string v.s]
def mc(v:LVal):Obj:=.cells v.arr 90 (0,0)
def ax(C:RCtx)(M:MRep)(w:kV):Er->Value->Prop
 | .stop,v=>v=ql C.eb
 | .thr x,v=>∃b,v=sN b/\w.heap[b]?=some (mc x)/\¬M.has b
section
variable {C:RCtx}{M M' sE:MRep}{w w' dN wE:kV}{s s':MSt}
def ax.fr{e:Er}{v:Value}(h:ax C M w e v)(f:MFr M M' w w'):ax C M' w' e v:=by
 cases e with
 |stop=>exact h
 |thr x=>
   obtain⟨b,o,g,m⟩:=h;have hl:=(Y1.1 g).1;exact⟨b,o,(f.block b hl m).trans g,f.free b hl m⟩
def ax.ne{e:Er}{v:Value}(h:ax C M w e v):∃t p,v=.iface t (.pointer p)/\p≠none:=by
 cases e with
 |stop=>exact⟨_,_,h,by simp⟩
 |thr x=>
   obtain⟨b,g,_⟩:=h;exact⟨_,_,g,by simp⟩
def Lo.ret{b:Nat}{x y z x' y' z':Value}(h:Lo C M wE w b #[x,y,z] 71)(u:MAt C M w s)(F:MFr sE M wE w) :
 MAt C M (((w.setCell ⟨b,0,none⟩ x').setCell ⟨b,1,none⟩ y').setCell ⟨b,2,none⟩ z') s/\MFr sE M wE (((w.setCell ⟨b,0,none⟩ x').setCell ⟨b,1,none⟩ y').setCell ⟨b,2,none⟩ z')/\
  ∀m ev,ax C M w m ev->ax C M (((w.setCell ⟨b,0,none⟩ x').setCell ⟨b,1,none⟩ y').setCell ⟨b,2,none⟩ z') m ev:=by
 obtain⟨I,a2,a3⟩:=h.put u F Qg Qg 0 x';obtain⟨b1,b2,b3⟩:=a3.put I a2 Qg Qg 1 y';obtain⟨c1,c2,c3⟩:=b3.put b1 b2 Qg Qg 2 z';refine⟨c1,c2,λm ev he=>?_⟩;cases m with
 |stop=>exact he
 |thr v=>
   obtain⟨g,J,o,O⟩:=he;have p:g≠b:=λe=>by
    rw[e,h.blk]at o;unfold mc at o;simp at o
   exact⟨g,J,(Y8 _ _ _ _ p).trans ((Y8 _ _ _ _ p).trans ((Y8 _ _ _ _ p).trans o)),O⟩
def Znb(w:kV)(t:kB):kC 100 #[.string t] w λe w'=>∃b,e=.returned (sN b)/\kW w w'/\w.heap.size<=b/\w'.heap[b]?=some (mc (.say t)):=by
 have hs:=Zba w t;simp only[LVal.agg]at hs;have o:=lh hs;clear hs;go_enter func100,ntmps100
 go_wp2_with fail
 refine o.o.mono ?_;rintro e w1⟨rfl,m⟩;have g:=lh m;clear m;go_wp2;go_ret;exact⟨w1.heap.size,rfl,g.o.alloc g.o.size _,g.o.size,Yq w1 _⟩
def LW(h:MAt C M w s)(t:kB):kC 100 #[.string t] w λe w'=>∃v,e=.returned v/\ax C M w' (.thr (.say t)) v/\kW w w':=
 (Znb w t).mono λe w' ⟨b,g,m,o,p⟩=>⟨_,g,⟨b,rfl,p,h.fresh o⟩,m⟩
end
def bK(C:RCtx)(M:MRep)(w:kV)(r:MSt×Except Er LVal)(e:Ending)(w':kV):Prop:=
 ∃ M', MAt C M' w' r.1 ∧ MFr M M' w w' ∧ match r.2 with
   | .ok v=>e=.returned (.tuple #[v.agg,.nilIface])
   | .error x=>∃(v:LVal) (ev:Value),e=.returned (.tuple #[v.agg,ev])/\ax C M' w' x ev
def AcJ(C:RCtx)(M:MRep)(w:kV)(r:MSt×Except Er Unit)(e:Ending)(w':kV):Prop:=
 ∃ M', MAt C M' w' r.1 ∧ MFr M M' w w' ∧ match r.2 with
   | .ok _=>e=.returned .nilIface
   | .error x=>∃ev:Value,e=.returned ev/\ax C M' w' x ev
def jm(C:RCtx)(M:MRep)(w:kV)(r:MSt×Except Er (Bool×LVal))(e:Ending)(w':kV):Prop:=
 ∃ M', MAt C M' w' r.1 ∧ MFr M M' w w' ∧ match r.2 with
   | .ok v=>e=.returned (.tuple #[.bool v.1,v.2.agg,.nilIface])
   | .error x=>∃(b:Bool) (v:LVal) (ev:Value),e=.returned (.tuple #[.bool b,v.agg,ev])/\ax C M' w' x ev
def Zre:Obj:=.cells #[vI 0,vI 0,.string ⟨#[]⟩] 71 (0,0)
section
variable {C:RCtx}{M M':MRep}{w w':kV}{s s':MSt}{B:Nat}{a:ATree}
theorem Z2(w:kV)(o:Obj):kW w (w.alloc o):=(Y2 _ _).alloc (Y0 _) o
def Zh0(h:MAt C M w s)(n:Int):kC 130 #[vI n] w λe w'=>bK C M w (Vp n s) e w':=by
 have u:=Z2 w Zre;have HL:=lh (Lo.new (wE:=w) h (Y0 _) h.old.size #[vI 0,vI 0,.string ⟨#[]⟩] 71);have Z:=lh (LW (h.below u) Ul);have ho:=Zny (w.alloc Zre) n;simp only[LVal.agg]at ho;obtain⟨HO,F,I⟩:=ds ho (h.below u) u;unfold Zre at Z HO F I;clear u h ho;unfold Vp;by_cases hn:1000000000<n\/n< -1000000000
 .rw[Y5 hn];have hd:decide (1000000000<n)=true\/decide (1000000000<n)=false/\decide (n< -1000000000)=true:=by
   by_cases h1:1000000000<n;·exact .inl (decide_eq_true h1)
   .exact .inr ⟨decide_eq_false h1,decide_eq_true Qe⟩
  have HN:=lh hn;clear hn;rcases hd with hd|⟨hd,tN⟩
  all_goals
   go_enter func130,ntmps130
   go_wp2_with fail
   refine Z.o.mono ?_;rintro e w1⟨ev,rfl,hE,g⟩;have m:=HL.o.bel g;obtain⟨J,O,U,z0,z1,z2⟩:=m.six;obtain⟨o,p,y⟩:=m.ret (x':=(vI 0)) (y':=(vI 0)) (z':=.string ⟨#[]⟩) (F.o.below g) ((MFr.of_below I.o).trans (.of_below g));obtain⟨HE,X,Y⟩:=ds (y _ _ hE) o p;clear hE m o p y g;go_wp2;refine Yp (v:=.tuple #[LVal.zero.agg,ev]) ?_ rfl ?_;·simp[results,results130,go_sem,J,O,U,LVal.agg,LVal.zero]
   .exact⟨M,X.o,Y.o,LVal.zero,ev,rfl,HE.o⟩
 .rw[Y3 hn];have hd:decide (1000000000<n)=false:=decide_eq_false Qe;have tN:decide (n< -1000000000)=false:=decide_eq_false Qe;go_enter func130,ntmps130
  go_wp2_with fail
  refine HO.o.mono ?_;rintro e w1⟨rfl,g⟩;have m:=HL.o.bel g;obtain⟨J,O,U,z0,z1,z2⟩:=m.six;obtain⟨o,p,y⟩:=m.ret (x':=(vI 3)) (y':=(vI n)) (z':=.string ⟨#[]⟩) (F.o.below g) ((MFr.of_below I.o).trans (.of_below g));have X:=lh o;have Y:=lh p;clear m o p y g;go_wp2;refine Yp (v:=.tuple #[(LVal.num n).agg,.nilIface]) ?_ rfl ?_;·simp[results,results130,go_sem,J,O,U,LVal.agg,LVal.num]
  .exact⟨M,X.o,Y.o,rfl⟩
def Zlm(h:MAt C M w s)(v:LVal)(g:0<=v.kind)(h5:v.kind<=5):kC 131 #[vP C.mb,v.agg] w λe w'=>e=.returned (.string (U3 s.H v))/\kW w w':=by
 obtain⟨k,n,t⟩:=v;simp only at g h5;simp only[LVal.agg];have hB:=Z2 w (.cells #[vI k,vI n,.string t] 71);have HC:=lh (Zxu ((h.below hB).drew) n);have HB:=lh hB;clear hB h;have x0:∀w:kV,(Instr.index 218 (.agg #[.string ⟨#[117,110,100,101,102,105,110,101,100]⟩,.string ⟨#[111,98,106,101,99,116]⟩,.string ⟨#[98,111,111,108,101,97,110]⟩,.string ⟨#[110,117,109,98,101,114]⟩,.string ⟨#[115,116,114,105,110,103]⟩,.string ⟨#[111,98,106,101,99,116]⟩]) (vI 0)).run Tryz.prog w=.ok (.string WP) w:=λ_=>by kernel_rfl
 have u:∀w:kV,(Instr.index 218 (.agg #[.string ⟨#[117,110,100,101,102,105,110,101,100]⟩,.string ⟨#[111,98,106,101,99,116]⟩,.string ⟨#[98,111,111,108,101,97,110]⟩,.string ⟨#[110,117,109,98,101,114]⟩,.string ⟨#[115,116,114,105,110,103]⟩,.string ⟨#[111,98,106,101,99,116]⟩]) (vI 1)).run Tryz.prog w=.ok (.string Za0) w:=λ_=>by kernel_rfl
 have y:∀w:kV,(Instr.index 218 (.agg #[.string ⟨#[117,110,100,101,102,105,110,101,100]⟩,.string ⟨#[111,98,106,101,99,116]⟩,.string ⟨#[98,111,111,108,101,97,110]⟩,.string ⟨#[110,117,109,98,101,114]⟩,.string ⟨#[115,116,114,105,110,103]⟩,.string ⟨#[111,98,106,101,99,116]⟩]) (vI 2)).run Tryz.prog w=.ok (.string Ze2) w:=λ_=>by kernel_rfl
 have F:∀w:kV,(Instr.index 218 (.agg #[.string ⟨#[117,110,100,101,102,105,110,101,100]⟩,.string ⟨#[111,98,106,101,99,116]⟩,.string ⟨#[98,111,111,108,101,97,110]⟩,.string ⟨#[110,117,109,98,101,114]⟩,.string ⟨#[115,116,114,105,110,103]⟩,.string ⟨#[111,98,106,101,99,116]⟩]) (vI 3)).run Tryz.prog w=.ok (.string Zht) w:=λ_=>by kernel_rfl
 have I:∀w:kV,(Instr.index 218 (.agg #[.string ⟨#[117,110,100,101,102,105,110,101,100]⟩,.string ⟨#[111,98,106,101,99,116]⟩,.string ⟨#[98,111,111,108,101,97,110]⟩,.string ⟨#[110,117,109,98,101,114]⟩,.string ⟨#[115,116,114,105,110,103]⟩,.string ⟨#[111,98,106,101,99,116]⟩]) (vI 4)).run Tryz.prog w=.ok (.string Zhn) w:=λ_=>by kernel_rfl
 have J:∀w:kV,(Instr.index 218 (.agg #[.string ⟨#[117,110,100,101,102,105,110,101,100]⟩,.string ⟨#[111,98,106,101,99,116]⟩,.string ⟨#[98,111,111,108,101,97,110]⟩,.string ⟨#[110,117,109,98,101,114]⟩,.string ⟨#[115,116,114,105,110,103]⟩,.string ⟨#[111,98,106,101,99,116]⟩]) (vI 5)).run Tryz.prog w=.ok (.string Za0) w:=λ_=>by kernel_rfl
 by_cases h5:k=5
 .subst h5;by_cases hc:s.H.code n=0
  .have hd:(s.H.code n !=0)=false:=by simp[hc]
   have e:U3 s.H ⟨5,n,t⟩=Za0:=by simp[U3,hc]
   exact AaU
  .have hd:(s.H.code n !=0)=true:=by simp[hc]
   have e:U3 s.H ⟨5,n,t⟩=Zat:=by simp[U3,hc]
   exact AaU
 .have b5:(k==5)=false:=by simp[h5]
  obtain⟨r,hr⟩:=zX (U3 s.H ⟨k,n,t⟩)
  rw[<-hr];have m:=lh hr;have p:=lh (show 0<=k/\k<=4 by omega);clear g h5 hr;go_enter func131,ntmps131
  go_wp2_with fail
  refine Z7 [0,2,4,6,8,10,12,14,16] [9,10,11] (λW=>vC W w.heap.size 0 (vI k)/\vC W w.heap.size 1 (vI n)) ⟨Ys _ _ _ 0,Ys _ _ _ 1⟩ λ_=>?_;refine dS ?_
  iterate 9
   refine dq ?_
  refine Z1 ?_;have g:=p.o;have hr:=m.o;rcases(show k=0\/k=1\/k=2\/k=3\/k=4 by omega)with rfl|rfl|rfl|rfl|rfl
  all_goals
   clear p m b5;simp only[U3]at hr;simp at hr;subst hr;go_wp2;go_ret;exact⟨rfl,HB.o.drew⟩
def Zce(h:MAt C M w s){d:Nat}(hI:Inv s d)(sc:Int)(name:kB):kC 160 #[vP C.mb,vI sc,.string name] w λe w'=>e=.returned (.tuple #[])/\Does C M w (s.loose sc name) w':=by
 have HH:=lh (VU h sc name);unfold MSt.loose;by_cases g:s.H.has sc name=true
 .rw[Y5 g];rw[g]at HH;have p:=lh h;clear h hI g;go_enter func160,ntmps160
  go_wp2_with fail
  refine HH.o.mono ?_;rintro e w1⟨rfl,hB⟩;have HB:=lh hB;clear hB;go_wp2;exact Yp (v:=.tuple #[]) (by simp[results,results160,go_sem]) rfl ⟨rfl,p.o.does HB.o⟩
 .rw[Y3 g];rw[Bool.not_eq_true]at g;rw[g]at HH;obtain⟨o,ho⟩:=zX (s.H.objectOf sc)
  rw[<-ho];have HO:=lh (λw1 (hB:kW w w1)=>Z6b (h.below hB).heap sc);rw[<-ho]at HO;have u:=lh (λw1 (hB:kW w w1)=>zG (h.below hB) hI o name LVal.zero false);have y:=lh (λw1 (hB:kW w w1)=>Wm (h.below hB) hI sc name 4 LVal.zero);clear h hI g ho;by_cases m:0<=o
  .rw[Y5 m];have hd:decide (0<=o)=true:=decide_eq_true m;exact tu3 u
  .rw[Y3 m];have hd:decide (0<=o)=false:=decide_eq_false m;exact tu3 y
def Zjp(N:Nat->Int)(o:TreeAt w B a)(hn:a.kids.length<1099511627776)(name:kB) :
 kC 159 #[a.ptr,.string name] w λe w'=>e=.returned (.bool ((a.nt N).lets.any λk=>Zh k.text name))/\kW w w':=by
 have HL:=lh (YR w B a o hn);rw[Z9k];obtain⟨P,hP⟩:=zX (a.kids.filter vV)
 rw[<-hP]at HL ⊢;refine Zp7 ?_;intro nr;have F:=lh o;obtain⟨R,g⟩:=zX ((P.map (ATree.nt N)).any λk=>Zh k.text name)
 rw[<-g];have U:=lh g;clear o hP g;unfold ATree.ptr at HL ⊢;go_enter func159,ntmps159
 go_wp2_with fail
 refine HL.o.mono ?_;rintro e w2⟨v2,rfl,m,p⟩;obtain⟨p2,jW,rfl,X,fR,I⟩:=m.slice;refine OE ?_;intro q cU nq;rw[<-cU]at X m ⊢;obtain⟨Y,Z,HQ1,J,gz⟩:=gq m I cU p (F.o.bel p);clear m p I cU HL F;go_wp2_with fail
 go_loopw [10] (λi wr=>∃(k:Nat),k<=q/\i=(vI k)/\wr=w2/\Hid (R=((P.drop k).map (ATree.nt N)).any λk=>Zh k.text name)) (λi _=>q-(intOf i).toNat)
 case atStart=>exact⟨0,Yh _,rfl,rfl,U⟩
 case round=>
  obtain⟨k,hk,rfl,rfl,u⟩:=hrel;by_cases bY:k<q
  .obtain⟨x,hx⟩:∃x,P[k]? =some x:=⟨_,Y6 Qw⟩
   obtain⟨g0,hp⟩:=Z.o k x hx;subst hp;have O:=nr.o x (Yd hx);have cx:=Y.o.cell rfl hx;have c1:=(gz.o.kid O).c1;have y:=lh (show R=(Zh x.text name||((P.drop (k+1)).map (ATree.nt N)).any λk=>Zh k.text name) by
    obtain⟨hl,he⟩:=List.getElem?_eq_some_iff.1 hx;rw[u.o,Yt hl,he,List.map_cons,List.any_cons,sw])
   clear O hx u;by_cases hs:Zh x.text name=true
   .have g:R=true:=by rw[y.o,hs];rfl
    have hb:(x.text.toList==name.toList)=true:=by rw[TZ,hs]
    subst g;go_wp2;go_ret;exact⟨rfl,J.o⟩
   .rw[Bool.not_eq_true]at hs;have hb:(x.text.toList==name.toList)=false:=by rw[TZ,hs]
    have xz:=lh (show R=((P.drop (k+1)).map (ATree.nt N)).any λk=>Zh k.text name by rw[y.o,hs];rfl);clear y;go_wp2;go_roundw
    case rel=>exact⟨k+1,by omega,by go_num,trivial,xz⟩
    case measure=>simp[intOf];omega
  .have aT:k=q:=by omega
   subst aT;have g:R=false:=by rw[u.o,List.drop_eq_nil_of_le Q4];rfl
   subst g;go_wp2;go_ret;exact⟨rfl,J.o⟩
end
def rF(C:RCtx)(M:MRep)(w:kV)(r:MSt×Except Er LVal)(w':kV)(M':MRep)(k n:Int)(t:kB)(ev:Value):Prop:=
 MAt C M' w' r.1/\MFr M M' w w'/\match r.2 with
  | .ok v=>v=⟨k,n,t⟩/\ev=.nilIface
  | .error x=>ax C M' w' x ev
def mE(C:RCtx)(M:MRep)(w:kV)(r:MSt×Except Er (Bool×LVal))(w':kV)(M':MRep)(b:Bool)(k n:Int)(t:kB)(ev:Value):Prop:=
 MAt C M' w' r.1/\MFr M M' w w'/\match r.2 with
  | .ok v=>v=(b,⟨k,n,t⟩)/\ev=.nilIface
  | .error x=>ax C M' w' x ev
def ag(k n:Int)(t:kB):Value:=.agg #[vI k,vI n,.string t]
def vO(k n:Int)(t:kB):Obj:=.cells #[vI k,vI n,.string t] 71 (0,0)
def sp(C:RCtx)(wE:kV)(M:MRep)(w:kV)(r:MSt×Except Er LVal)(W:kV)(p:Nat)(M':MRep)(k n:Int)(t:kB)(ev:Value):Prop:=
 rF C M w r W M' k n t ev/\Lo C M' w W p #[vI k,vI n,.string t] 71
def Lz(C:RCtx)(wE:kV)(M:MRep)(w:kV)(r:MSt×Except Er (Bool×LVal))(W:kV)(p:Nat)(M':MRep)(b:Bool)(k n:Int)(t:kB)(ev:Value):Prop:=
 mE C M w r W M' b k n t ev/\Lo C M' w W p #[vI k,vI n,.string t] 71
section
variable {C:RCtx}{M M':MRep}{w w' W wE:kV}{s s':MSt}{B:Nat}{a:ATree}{k n:Int}{t:kB}{ev:Value}{b:Bool}
def Calls.vres{f:Nat}{args:Array Value}{r:MSt×Except Er LVal}(h:kC f args w λe w'=>bK C M w r e w') :
 kC f args w λe w'=>∃M' k n t ev,e=.returned (.tuple #[ag k n t,ev])/\rF C M w r w' M' k n t ev:=by
 refine h.mono ?_;rintro e w'⟨M',m,o,g⟩;rcases hr:r.2 with x|v
 .rw[hr]at g;obtain⟨⟨k,n,t⟩,ev,rfl,p⟩:=g;exact⟨M',k,n,t,ev,rfl,m,o,by rw[hr];exact p⟩
 .rw[hr]at g;obtain⟨k,n,t⟩:=v;exact⟨M',k,n,t,.nilIface,g,m,o,by rw[hr];exact⟨rfl,rfl⟩⟩
def Calls.dres{f:Nat}{args:Array Value}{r:MSt×Except Er (Bool×LVal)}(h:kC f args w λe w'=>jm C M w r e w') :
 kC f args w λe w'=>∃M' b k n t ev,e=.returned (.tuple #[.bool b,ag k n t,ev])/\mE C M w r w' M' b k n t ev:=by
 refine h.mono ?_;rintro e w'⟨M',m,o,g⟩;rcases hr:r.2 with x|v
 .rw[hr]at g;obtain⟨b,⟨k,n,t⟩,ev,rfl,p⟩:=g;exact⟨M',b,k,n,t,ev,rfl,m,o,by rw[hr];exact p⟩
 .rw[hr]at g;obtain⟨b,k,n,t⟩:=v;exact⟨M',b,k,n,t,.nilIface,g,m,o,by rw[hr];exact⟨rfl,rfl⟩⟩
theorem ax.bel{x:Er}(h:ax C M w x ev)(g:kW w w'):ax C M w' x ev:=h.fr (.of_below g)
def rF.bel{r:MSt×Except Er LVal}(h:rF C M w r w' M' k n t ev)(hB:kW w' W):rF C M w r W M' k n t ev:=by
 exact Zyw
def mE.bel{r:MSt×Except Er (Bool×LVal)}(h:mE C M w r w' M' b k n t ev)(hB:kW w' W):mE C M w r W M' b k n t ev:=by
 exact Zyw
theorem rF.pre{r:MSt×Except Er LVal}(g:kW W w)(h:rF C M w r w' M' k n t ev):rF C M W r w' M' k n t ev:=⟨h.1,(MFr.of_below g).trans h.2.1,h.2.2⟩
theorem mE.pre{r:MSt×Except Er (Bool×LVal)}(g:kW W w)(h:mE C M w r w' M' b k n t ev):mE C M W r w' M' b k n t ev:=⟨h.1,(MFr.of_below g).trans h.2.1,h.2.2⟩
def rF.boxA{r:MSt×Except Er LVal}(h:rF C M w r w' M' k n t ev)(g:wE.heap.size<=w.heap.size)(m:C.w0.heap.size<=wE.heap.size) :
 sp C wE M w r (w'.alloc (vO k n t)) w'.heap.size M' k n t ev:=
 ⟨h.bel (Z2 _ _),Lo.new h.1 h.2.1.size (Y4 m g) _ _⟩
def mE.boxA{r:MSt×Except Er (Bool×LVal)}(h:mE C M w r w' M' b k n t ev)(g:wE.heap.size<=w.heap.size)(m:C.w0.heap.size<=wE.heap.size) :
 Lz C wE M w r (w'.alloc (vO k n t)) w'.heap.size M' b k n t ev:=
 ⟨h.bel (Z2 _ _),Lo.new h.1 h.2.1.size (Y4 m g) _ _⟩
def Zg1{w:kV}{b i:Nat}{c:Array Value}{T:TypeId}{x:Value}(h:w.heap[b]?=some (.cells c T (0,0))):(w.setCell ⟨b,i,none⟩ x).heap[b]?=some (.cells (c.setIfInBounds i x) T (0,0)):=by
 simp[World.setCell,Array.getElem?_modify,h]
def Lo.fill{p:Nat}{x y z x' y' z':Value}{M0:MRep}(h:Lo C M wE w p #[x,y,z] 71)(F:MAt C M w s)(m:MFr M0 M W w)(hp:W.heap.size<=p) :
 MAt C M (((w.setCell ⟨p,0,none⟩ x').setCell ⟨p,1,none⟩ y').setCell ⟨p,2,none⟩ z') s/\MFr M0 M W (((w.setCell ⟨p,0,none⟩ x').setCell ⟨p,1,none⟩ y').setCell ⟨p,2,none⟩ z')/\
  Lo C M wE (((w.setCell ⟨p,0,none⟩ x').setCell ⟨p,1,none⟩ y').setCell ⟨p,2,none⟩ z') p #[x',y',z'] 71/\
  ∀o ev,ax C M w o ev->ax C M (((w.setCell ⟨p,0,none⟩ x').setCell ⟨p,1,none⟩ y').setCell ⟨p,2,none⟩ z') o ev:=by
 have X:MFr M M w w:=.refl M w;obtain⟨Y,Z⟩:=zX w
 have h':Lo C M W w p #[x,y,z] 71\/True:=.inr trivial;obtain⟨I,a3⟩:MAt C M (w.setCell ⟨p,0,none⟩ x') s/\Lo C M wE (w.setCell ⟨p,0,none⟩ x') p #[x',y,z] 71:=by
  exact⟨F.local h.blk Qg Qg h.free (Y4 h.old h.late),⟨Zg1 h.blk,h.free,h.late,h.old⟩⟩
 obtain⟨b1,b3⟩:MAt C M ((w.setCell ⟨p,0,none⟩ x').setCell ⟨p,1,none⟩ y') s/\Lo C M wE ((w.setCell ⟨p,0,none⟩ x').setCell ⟨p,1,none⟩ y') p #[x',y',z] 71:=by
  exact⟨I.local a3.blk Qg Qg a3.free (Y4 h.old h.late),⟨Zg1 a3.blk,h.free,h.late,h.old⟩⟩
 obtain⟨c1,c3⟩:MAt C M (((w.setCell ⟨p,0,none⟩ x').setCell ⟨p,1,none⟩ y').setCell ⟨p,2,none⟩ z') s/\Lo C M wE (((w.setCell ⟨p,0,none⟩ x').setCell ⟨p,1,none⟩ y').setCell ⟨p,2,none⟩ z') p #[x',y',z'] 71:=by
  exact⟨b1.local b3.blk Qg Qg b3.free (Y4 h.old h.late),⟨Zg1 b3.blk,h.free,h.late,h.old⟩⟩
 have hs:(((w.setCell ⟨p,0,none⟩ x').setCell ⟨p,1,none⟩ y').setCell ⟨p,2,none⟩ z').heap.size=w.heap.size:=QJ
 have hk:∀q,q≠p->(((w.setCell ⟨p,0,none⟩ x').setCell ⟨p,1,none⟩ y').setCell ⟨p,2,none⟩ z').heap[q]?=w.heap[q]?:=λq hq=>
  (Y8 _ _ _ _ hq).trans ((Y8 _ _ _ _ hq).trans (Y8 _ _ _ _ hq))
 refine⟨c1,⟨m.os,m.tape,m.output,by rw[hs];exact m.size,λq hq hf=>(hk q Qe).trans (m.block q hq hf),m.free⟩,c3,λo ev he=>?_⟩;cases o with
 |stop=>exact he
 |thr v=>
   obtain⟨g,J,u,O⟩:=he;have U:g≠p:=λe=>by
    rw[e,h.blk]at u;unfold mc at u;simp at u
   exact⟨g,J,(hk g U).trans u,O⟩
def rF.boxB{r:MSt×Except Er LVal}{k0 n0:Int}{t0:kB}(h:rF C M (w.alloc (vO k0 n0 t0)).drew r w' M' k n t ev)(hM:MAt C M w s)(hE:wE.heap.size<=w.heap.size)(hO:C.w0.heap.size<=wE.heap.size) :
 sp C wE M w r (((w'.setCell ⟨w.heap.size,0,none⟩ (vI k)).setCell ⟨w.heap.size,1,none⟩ (vI n)).setCell ⟨w.heap.size,2,none⟩ (.string t)) w.heap.size M' k n t ev:=by
 exact AaZ
def mE.boxB{r:MSt×Except Er (Bool×LVal)}{k0 n0:Int}{t0:kB}(h:mE C M (w.alloc (vO k0 n0 t0)).drew r w' M' b k n t ev)(hM:MAt C M w s)(hE:wE.heap.size<=w.heap.size)(hO:C.w0.heap.size<=wE.heap.size) :
 Lz C wE M w r (((w'.setCell ⟨w.heap.size,0,none⟩ (vI k)).setCell ⟨w.heap.size,1,none⟩ (vI n)).setCell ⟨w.heap.size,2,none⟩ (.string t)) w.heap.size M' b k n t ev:=by
 exact AaZ
end
section
variable {P:Program}{ah:Array Oper}{md:Region.Mode}{Q:Exit->Act->kV->Prop}{S:kV->Prop}{t:Nat}
theorem Zu{i j:Nat}{g m:Pl3}{b:Bool}{a:Act}{w:kV}(h:wD P md ah Q S t (.go i g) b a w/\wD P md ah Q S t (.go j m) b a w):wD P md ah Q S t (.two i g j m) b a w:=h
end
section
variable {C:RCtx}{M M':MRep}{w w' W wE:kV}{s s':MSt}{B:Nat}{a:ATree}{k n:Int}{t:kB}{ev:Value}{b:Bool}
def rF.lo{r:MSt×Except Er LVal}{k0 n0:Int}{t0:kB}(h:rF C M (w.alloc (vO k0 n0 t0)).drew r w' M' k n t ev)(hM:MAt C M w s)(hE:wE.heap.size<=w.heap.size)(hO:C.w0.heap.size<=wE.heap.size) :
 Lo C M' wE w' w.heap.size #[vI k0,vI n0,.string t0] 71:=by
 exact YV
def mE.lo{r:MSt×Except Er (Bool×LVal)}{k0 n0:Int}{t0:kB}(h:mE C M (w.alloc (vO k0 n0 t0)).drew r w' M' b k n t ev)(hM:MAt C M w s)(hE:wE.heap.size<=w.heap.size)(hO:C.w0.heap.size<=wE.heap.size) :
 Lo C M' wE w' w.heap.size #[vI k0,vI n0,.string t0] 71:=by
 exact YV
theorem Zd(w:kV):kW w w.drew:=(Y2 _ _).drew
def TreeAt.row(u:TreeAt w B a)(hf:a.free M)(hn:a.kids≠[]):∃m o,vC w a.b 3 (.slice (some ⟨m,0,none⟩) a.kids.length o)/\a.kids.length<=o/\o<=9223372036854775807/\
 (∀(i:Nat) (x:ATree),a.kids[i]?=some x->w.cell? ⟨m,i,none⟩=some (vP x.b))/\m<w.heap.size/\¬M.has m:=by
 have p:=u.rowOf;rcases Z4 p with⟨_,I⟩|⟨m,o,y,J,F,O⟩;·exact absurd (List.length_eq_zero_iff.1 I) hn
 have c3:=u.c3;rw[y]at c3 p;unfold maxLen at F;refine⟨m,o,c3,J,F,λi x hx=>Zq (x:=x.ptr) p (g:=m) rfl RD,O,hf m ?_⟩;have e:=y;revert e;cases a with
 |mk b v k t n l=>
   intro e;simp only[ATree.v,ATree.kids]at e;subst e;simp[ATree.blocks,Value.ownBlock]
theorem ATree.free.blk(hf:a.free M):¬M.has a.b:=hf a.b (AaV a)
def frO(fr:Frm):Obj:=.cells #[.bool fr.strict,vI fr.vars] 78 (0,0)
def Zxh(h:MAt C M w s)(fr:Frm):kW w (w.alloc (frO fr))/\Lo C M w (w.alloc (frO fr)) w.heap.size #[.bool fr.strict,vI fr.vars] 78:=
 ⟨Z2 _ _,Lo.new h (Y0 _) h.old.size _ _⟩
def Znr(h:MAt C M w s)(fr:Frm):kW w ((w.alloc (frO fr)).alloc (vO 0 0 ⟨#[]⟩))/\Lo C M w ((w.alloc (frO fr)).alloc (vO 0 0 ⟨#[]⟩)) w.heap.size #[.bool fr.strict,vI fr.vars] 78/\
 Lo C M w ((w.alloc (frO fr)).alloc (vO 0 0 ⟨#[]⟩)) (w.heap.size+1) #[vI 0,vI 0,.string ⟨#[]⟩] 71:=by
 obtain⟨h1,h2⟩:=Zxh h fr;have hs:(w.alloc (frO fr)).heap.size=w.heap.size+1:=World.size_alloc _ _;exact Xl
def Zqy(h:MAt C M w s)(fr:Frm):kW w (((w.alloc (frO fr)).alloc (vO 0 0 ⟨#[]⟩)).alloc (vO 0 0 ⟨#[]⟩))/\Lo C M w (((w.alloc (frO fr)).alloc (vO 0 0 ⟨#[]⟩)).alloc (vO 0 0 ⟨#[]⟩)) w.heap.size #[.bool fr.strict,vI fr.vars] 78/\
 Lo C M w (((w.alloc (frO fr)).alloc (vO 0 0 ⟨#[]⟩)).alloc (vO 0 0 ⟨#[]⟩)) (w.heap.size+1) #[vI 0,vI 0,.string ⟨#[]⟩] 71/\
 Lo C M w (((w.alloc (frO fr)).alloc (vO 0 0 ⟨#[]⟩)).alloc (vO 0 0 ⟨#[]⟩)) (w.heap.size+1+1) #[vI 0,vI 0,.string ⟨#[]⟩] 71:=by
 obtain⟨g,o,p⟩:=Znr h fr;have hs:((w.alloc (frO fr)).alloc (vO 0 0 ⟨#[]⟩)).heap.size=w.heap.size+1+1:=Qm
 have m:=Lo.new (wE:=w) (h.below g) Qe h.old.size #[vI 0,vI 0,.string ⟨#[]⟩] 71;rw[hs]at m;exact⟨g.trans ((Z2 _ _).mono g.size),o.bel (Z2 _ _),p.bel (Z2 _ _),m⟩
def bK.err{W g:kV}{M1:MRep}{s1:MSt}{rb:Nat}{x0 m z0:Value}{x:Er}(hL:Lo C M w g rb #[x0,m,z0] 71)(hz:kW w g)(hM:MAt C M1 W s1)(hF:MFr M M1 g W)(he:ax C M1 W x ev) :
 bK C M w (s1,.error x) (.returned (.tuple #[.agg #[vI k,vI n,.string t],ev])) (((W.setCell ⟨rb,0,none⟩ (vI k)).setCell ⟨rb,1,none⟩ (vI n)).setCell ⟨rb,2,none⟩ (.string t)):=by
 refine Zt2 ?_;intro g1 g2 g3;exact⟨M1,g1,g2,⟨k,n,t⟩,ev,rfl,g3 _ _ he⟩
def bK.fine{W g:kV}{M1:MRep}{s1:MSt}{rb:Nat}{x0 m z0:Value}(hL:Lo C M w g rb #[x0,m,z0] 71)(hz:kW w g)(hM:MAt C M1 W s1)(hF:MFr M M1 g W) :
 bK C M w (s1,.ok ⟨k,n,t⟩) (.returned (.tuple #[.agg #[vI k,vI n,.string t],.nilIface])) (((W.setCell ⟨rb,0,none⟩ (vI k)).setCell ⟨rb,1,none⟩ (vI n)).setCell ⟨rb,2,none⟩ (.string t)):=by
 exact Zz6
def jm.err{W g:kV}{M1:MRep}{s1:MSt}{rb:Nat}{x0 m z0:Value}{x:Er}(hL:Lo C M w g rb #[x0,m,z0] 71)(hz:kW w g)(hM:MAt C M1 W s1)(hF:MFr M M1 g W)(he:ax C M1 W x ev) :
 jm C M w (s1,.error x) (.returned (.tuple #[.bool b,.agg #[vI k,vI n,.string t],ev])) (((W.setCell ⟨rb,0,none⟩ (vI k)).setCell ⟨rb,1,none⟩ (vI n)).setCell ⟨rb,2,none⟩ (.string t)):=by
 refine Zt2 ?_;exact Aam
def jm.fine{W g:kV}{M1:MRep}{s1:MSt}{rb:Nat}{x0 m z0:Value}(hL:Lo C M w g rb #[x0,m,z0] 71)(hz:kW w g)(hM:MAt C M1 W s1)(hF:MFr M M1 g W) :
 jm C M w (s1,.ok (b,⟨k,n,t⟩)) (.returned (.tuple #[.bool b,.agg #[vI k,vI n,.string t],.nilIface])) (((W.setCell ⟨rb,0,none⟩ (vI k)).setCell ⟨rb,1,none⟩ (vI n)).setCell ⟨rb,2,none⟩ (.string t)):=by
 exact Zz6
end
def Te{A B:Prop}{H R:kV->Nat->MRep->Int->Int->kB->Value->Prop}(m:Hid (∀W p M k n t ev,H W p M k n t ev->R W p M k n t ev)->A)(o:Hid (∀W p M k n t ev,H W p M k n t ev->R W p M k n t ev)->B)
 (g:∀W p M k n t ev,H W p M k n t ev->R W p M k n t ev):A/\B:=⟨m (lh g),o (lh g)⟩
def Ziz{A B:Prop}{H R:kV->Nat->MRep->Bool->Int->Int->kB->Value->Prop}(m:Hid (∀W p M b k n t ev,H W p M b k n t ev->R W p M b k n t ev)->A)(o:Hid (∀W p M b k n t ev,H W p M b k n t ev->R W p M b k n t ev)->B)
 (g:∀W p M b k n t ev,H W p M b k n t ev->R W p M b k n t ev):A/\B:=⟨m (lh g),o (lh g)⟩
def zd(C:RCtx)(V:VF)(b:Int):Prop:=∀(w:kV) (M:MRep) (s:MSt) (a:ATree) (B:Nat) (sc:Int) (fr:Frm) (d:Nat),MAt C M w s->Inv s d->FAt s sc fr->b<=s.steps->s.steps<=20000->
 (a.nt C.N).wf .v->(a.nt C.N).tree.many<=1500->TreeAt w B a->a.free M->
 kC 95 #[vP C.mb,a.ptr,vI sc,.agg #[.bool fr.strict,vI fr.vars]] w λe w'=>bK C M w (V (a.nt C.N) sc fr s) e w'
def FR(C:RCtx)(D:DF)(b:Int):Prop:=∀(w:kV) (M:MRep) (s:MSt) (a:ATree) (B:Nat) (sc:Int) (fr:Frm) (d:Nat),MAt C M w s->Inv s d->FAt s sc fr->b<=s.steps->s.steps<=20000->
 (a.nt C.N).wf .s->(a.nt C.N).tree.many<=1500->TreeAt w B a->a.free M->
 kC 62 #[vP C.mb,a.ptr,vI sc,.agg #[.bool fr.strict,vI fr.vars]] w λe w'=>jm C M w (D (a.nt C.N) sc fr s) e w'
