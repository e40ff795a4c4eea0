import Derived.Test.YtkebnpemgkjpkaaGreatDoorJ16
set_option maxRecDepth 100000
set_option maxHeartbeats 20000000
set_option linter.all false
namespace Go.Proofs.YtkebnpemgkjpkaaGreatDoor
open Go Go.RowKit Go.Proofs.Tryz Tryz
def Zkw{T:List kB}{k:Nat}{s:kB}(h:T[k]?=some s):Zam (T.take k) (T.drop k)=(Lib.containsS (T.take k) s||Zam (T.take (k+1)) (T.drop (k+1))):=by
 obtain⟨hk,he⟩:=List.getElem?_eq_some_iff.1 h;rw[Yt hk,List.take_succ_eq_append_getElem hk,he];rfl
def Zjo{L V T:List kB}{b:Bool}{k:Nat}{s:kB}(h:T[k]?=some s):ZA L V b (T.take k) (T.drop k)=(Lib.containsS L s||(!b&&((T.take k).any (λo=>Zg o s)||Lib.containsS V s))||ZA L V b (T.take (k+1)) (T.drop (k+1))):=by
 obtain⟨hk,he⟩:=List.getElem?_eq_some_iff.1 h;rw[Yt hk,List.take_succ_eq_append_getElem hk,he];rfl
structure EsInv(w0:kV)(c:Nat)(l:List kB)(w:kV):Prop where
 cell:∃v,w.heap[c]?=some (.cells #[v] 27 (0,0))/\Zz w (c+1) v l
 bel:kW w0 w
def EsInv.on{w0 w w1:kV}{c:Nat}{l:List kB}(h:EsInv w0 c l w)(g:kW w w1):EsInv w0 c l w1:=by
 obtain⟨v,h1,m⟩:=h.cell;exact⟨⟨v,(g.block c (Y1.1 h1).1).trans h1,m.bel g⟩,h.bel.trans (g.mono h.bel.size)⟩
def EsInv.push{w0 w w1 w2:kV}{c:Nat}{l:List kB}{v v2:Value}{s:kB}(u:w.heap[c]?=some (.cells #[v] 27 (0,0)))(ht:Zz w (c+1) v l)(m:kW w0 w)(hc:w0.heap.size<=c)
 (g:kW w w1)(y:w1.grownBy w2 v.ownBlock)(F:w2.ownsRow (c+1) 9 1 v2 (l.length+1) (l.map Value.string++[.string s])) :
 EsInv w0 c (l++[s]) (w2.setCell ⟨c,0,none⟩ v2)/\∀k,k<w.heap.size->k≠c->v.ownBlock≠some k->(w2.setCell ⟨c,0,none⟩ v2).heap[k]?=w.heap[k]?:=by
 have G:=(Y1.1 u).1;have I:v.ownBlock≠some c:=λe=>by have:=(Y9 ht c e).1;omega
 have step:∀k,k<w.heap.size->v.ownBlock≠some k->w2.heap[k]?=w.heap[k]?:=λk hk J=>(y.block k (Y7 hk g.size) (λe=>J e.symm)).trans (g.block k hk);refine⟨⟨⟨v2,Zj (o:=0) v2 ((step c G I).trans u),?_⟩,?_⟩,λk hk h1 O=>(Y8 _ _ _ _ h1).trans (step k hk O)⟩
 .refine Z3 (Zc0 F) λk hk=>Y8 _ _ _ _ ?_;have:=(Y9 F k hk).1;simp only;omega
 .refine Below.setCell (Below.grown (m.trans (g.mono m.size)) y (Y4 m.size g.size) ?_) (p:=⟨c,0,none⟩) hc _;exact λk hk=>by have:=(Y9 ht k hk).1;omega
def ll.off{w w':kV}{B m c:Nat}{v g p:Value}{L:List ATree}{l:List kB}(h:ll w B v L)(u:w.heap[c]?=some (.cells #[p] 27 (0,0)))(ht:Zz w m g l)
 (hf:∀k,k<w.heap.size->k≠c->g.ownBlock≠some k->w'.heap[k]?=w.heap[k]?):ll w' B v L:=by
 refine Z3 h λk hk=>hf k (Y9 h k hk).2 ?_ ?_
 .intro e;obtain⟨c1,f1,h1⟩:=Lib.ownsRow_kind h k hk;rw[e,u]at h1;simp only[Option.some.injEq,Obj.cells.injEq]at h1;exact absurd h1.2.1 Py
 .intro e;exact WK
theorem ll.slice{w:kV}{B:Nat}{v:Value}{l:List ATree}(h:ll w B v l):∃p m,v=.slice p l.length m/\l.length<=m/\m<=maxLen/\∀(i:Nat) x,l[i]?=some x->∃g,p=some ⟨g,0,none⟩:=by
 exact AaN
def Zz.form2{w:kV}{B:Nat}{v:Value}{l:List kB}(h:Zz w B v l):∃p m,v=.slice p l.length m/\l.length<=m/\m<=maxLen/\∀(i:Nat) x,l[i]?=some x->∃g,p=some ⟨g,0,none⟩:=by
 exact AaN
def Za8(w:kV)(B:Nat)(a:ATree)(st ins body:Bool)(hT:TreeAt w B a)(hm:a.many<274877906944) :
 kC 31 #[.agg #[.bool st,.bool ins],a.ptr,.bool body] w λe w'=>e=.returned (vI (if Iw a body then 9 else 0))/\kW w w':=by
 obtain⟨i0,hi,aC,bo,bQ⟩:=info_parts zg;refine FG ?_;intro iO;have aX:=Zbd a;obtain⟨Y,HL,Cz,HV⟩:=en hT (λW (h:TreeAt W B a)=>YU W B a h Px) (λW (h:TreeAt W B a)=>YN W B a h Px) (λW (h:TreeAt W B a)=>Z89 W B a h Px);refine Aao ?_;intro nh dA tf fj qV jy;have gN:Iw a body=(Zam [] (Sj a)||ZA (Sj a) (zt a) body [] (Zd0 a)||(zt a).any (λs=>Lib.containsS (Sj a) s)):=rfl;obtain⟨P,hP⟩:=zX (a.kids.filter vG)
 obtain⟨Q,hQ⟩:=zX (a.kids.filter xk)
 obtain⟨V,Fk⟩:=zX (zt a)
 have As:Sj a=P.map ATree.text:=by rw[hP];rfl
 have Jw:Zd0 a=Q.map ATree.text:=by rw[hQ];rfl
 rw[As,Jw,<-Fk]at gN;rw[<-hP]at dA jy;rw[<-hQ]at nh qV;simp only[<-hP]at HL;simp only[<-hQ]at Cz;simp only[<-Fk]at HV;obtain⟨T,qo⟩:=zX (P.map ATree.text)
 rw[<-qo]at gN;obtain⟨R1,dz⟩:=zX (Zam [] T)
 obtain⟨R2,am⟩:=zX (ZA T V body [] (Q.map ATree.text))
 rw[<-dz,<-am]at gN;obtain⟨code,au⟩:∃c:Int,c=if Iw a body then 9 else 0:=⟨_,rfl⟩
 rw[<-au];rw[gN]at au;obtain⟨Z,fY,bA,iU⟩:=en au dz am qo;have hb0:kW w (w.alloc (.cells #[.bool st,.bool ins] 89)):=(Y2 _ _).alloc (Y0 _) _;have gL:EsInv w (w.heap.size+1) [] ((w.alloc (.cells #[.bool st,.bool ins] 89)).alloc (.cells #[.slice none 0 0] 27)):=
  ⟨⟨_,by simpa using(Go.MapKept.heap_alloc (w.alloc (.cells #[.bool st,.bool ins] 89)) (.cells #[.slice none 0 0] 27)).1,Zz.nil _ _⟩,hb0.alloc hb0.size _⟩
 have xN:=lh gL;have At:a.kids.length<274877906944:=Px
 clear hT aX tf fj gN au hP hQ Fk As Jw qo dz am hb0 gL;unfold ATree.ptr at HL Cz HV ⊢;go_enter func31,ntmps31
 go_wp2_with fail
 refine(HL.o _ (Y.o.bel xN.o.bel)).mono ?_;rintro e w2⟨v2,rfl,cG,aA⟩;have cf:=xN.o.on aA;have bW:=lh cf;obtain⟨zn,DV⟩:=zX (((w.alloc (.cells #[.bool st,.bool ins] 89)).alloc (.cells #[.slice none 0 0] 27)).heap.size)
 rw[<-DV]at cG;obtain⟨p2,jR,rfl,dF,fQ,dc⟩:=cG.slice;have N2:=lh cG;have gR:=lh dc;refine Og ?_;intro q cS ni;rw[<-cS]at dF N2 dA ⊢;have HQ1:=lh cS;clear cf cG aA DV cS xN dc;go_wp2_with fail
 go_loopw [19] (λi wr=>∃(k:Nat),k<=q/\i=(vI k)/\Hid (EsInv w (w.heap.size+1) (T.take k) wr)/\Hid (ll wr zn (.slice p2 q jR) P)/\Hid (Zam (T.take k) (T.drop k)=R1)) (λi _=>q-(intOf i).toNat)
 case atStart=>exact⟨0,Yh _,rfl,bW,N2,lh fY.o.symm⟩
 case round=>
  obtain⟨k,hk,rfl,HS,O,HR⟩:=hrel;clear bW N2;by_cases bX:k<q
  .obtain⟨x,hx⟩:∃x,P[k]? =some x:=⟨_,Y6 PP⟩
   obtain⟨g0,hp⟩:=gR.o k x hx;subst hp;have cx:=O.o.cell rfl hx;have U:=(Y.o.bel HS.o.bel).kid (jy.o x (Yd hx));have c1:=U.c1;refine Zu0 ?_;intro v bh bc sv;have Jx:wr.frozen? ⟨w.heap.size+1,0,none⟩=false:=by simp[World.frozen?,bh]
   have mO:=(Y1.1 bh).1;have jn:=U.lt;have se:T[k]?=some x.text:=by rw[iU.o,Yg,hx];rfl
   have p:=Zkw se;rw[HR.o]at p;have cR:(T.take k).length=k:=by rw[List.length_take,iU.o,Ym,<-HQ1.o];omega
   have dP:T.take k++[x.text]=T.take (k+1):=by
    exact WO
   obtain⟨pv,nv,cv,rfl⟩:=bc.slice;obtain⟨tx,oC⟩:=zX x.text
   rw[<-oC]at c1 p dP;obtain⟨l,hl⟩:=zX (T.take k)
   rw[<-hl]at bc p cR dP;have HC:=lh (YC (w:=wr.drew) (Z3 bc λk _=>rfl) tx);obtain⟨cb,mf⟩:=zX (Lib.containsS l tx)
   rw[<-mf]at HC p;obtain⟨TX,tN,F,yy,CA⟩:=gp bc bh p dP HS.o.bel;have Me:l.length<1099511627776:=Px
   clear U bh bc se p dP oC hl mf hx;go_wp2_with fail
   refine Z7 [0,2,4,6,8] [5] (λW=>vC W (w.heap.size+1) 0 (.slice pv nv cv)/\vC W x.b 1 (.string tx)) ⟨sv,c1⟩ λ_=>?_;refine dU ?_
   iterate 5
    refine fa ?_
   refine Z0 ?_;go_wp2_with fail
   refine HC.o.mono ?_;rintro e w'⟨rfl,X⟩;rw[X];clear X w' HC;cases cb
   .have Jy:wr.drew.cell? ⟨w.heap.size+1,0,none⟩=some (.slice pv nv cv):=sv;have c1':wr.drew.cell? ⟨x.b,1,none⟩=some (.string tx):=c1;have Mf:wr.drew.frozen? ⟨w.heap.size+1,0,none⟩=false:=Jx;go_wp2_with fail
    refine Z7 [0,2,4,6,8,11] [6,7] (λW=>vC W (w.heap.size+1) 0 (.slice pv nv cv)/\vC W x.b 1 (.string tx)) ⟨Jy,c1'⟩ λ_=>?_;refine dU ?_
    iterate 5
     refine fa ?_
    refine Ze (λK hK=>?_);go_simp
    refine hK _ _ ⟨(Zc Qs).trans Jy,(Zc (by show x.b<_;exact jn)).trans c1'⟩ ?_;clear hK K;refine Z0 ?_;have Jz:(wr.alloc (.cells #[.string tx] 9)).drew.drew.frozen? ⟨w.heap.size+1,0,none⟩=false:=(TG Qs).trans Jx;have uI:=TX;unfold Zz at uI;have JA:(wr.alloc (.cells #[.string tx] 9)).drew.drew.ownsRow (w.heap.size+1+1) 9 1 (.slice pv nv cv) l.length (l.map Value.string):=Z3 (uI.o.alloc _) λk _=>rfl;have Fl:=lh JA;clear JA
    refine wpList_append_lies _ rfl (.tmp 29) (.tmp 34) 27 rfl (w.heap.size+1+1) 9 i0 (.string ByteArray.empty) 1 16 underlying27 hi aC bo bQ rfl Py (.slice pv nv cv) l.length (l.map Value.string) rfl Fl.o ⟨wr.heap.size,0,none⟩ 1 1 [.string tx] rfl rfl (λj u hu=>cell_one_new wr _ _ j u hu) PH Py PA Px PB (wr.heap.size+1) PE ?_;intro g cap w3 aJ aw bZ fE;have HG:=lh aw;have HW:=lh aJ
    have aG:(Value.slice pv nv cv).ownBlock≠some (w.heap.size+1):=λe=>by have:=(Y9 TX.o _ e).1;omega
    have OU:w3.frozen? ⟨w.heap.size+1,0,none⟩=false:=(aw.frozen_far ⟨w.heap.size+1,0,none⟩ PB (λe=>aG e.symm)).trans Jz;have OV:vC w3 (w.heap.size+1) 0 (.slice pv nv cv):=(aw.cell_far ⟨w.heap.size+1,0,none⟩ PB (λe=>aG e.symm)).trans ((Zc (w:=wr) Qs).trans sv);clear aw aJ bZ fE aG Jz;simp only[Act.put,zA,zB,zC];go_wp2
    have qp:=EsInv.push tN.o TX.o CA.o Px (((Y2 wr.heap.size wr).alloc (Y0 _) (.cells #[.string tx] 9)).drew.drew) HG.o HW.o;rw[yy.o,cR]at qp;have tP:=lh qp;clear qp;go_roundw
    case rel=>
     refine⟨k+1,by omega,by go_num,lh tP.o.1,lh (O.o.off tN.o TX.o tP.o.2),lh ?_⟩;have h1:=F.o;simp only[Bool.false_or]at h1;exact h1.symm
    case measure=>simp[intOf];omega
   .go_wp2;go_ret;refine⟨?_,CA.o.drew⟩;have h1:=F.o;simp only[Bool.true_or]at h1;rw[Z.o,h1];rfl
  ·have aR : k = q := by omega
   subst aR;have Mg:T.length=k:=by rw[iU.o,Ym,<-HQ1.o]
   have aF:EsInv w (w.heap.size+1) T wr:=by
    have:=HS.o;rwa[Ye Px]at this
   have bz:R1=false:=by
    have:=HR.o;rw[Ye Px,List.drop_of_length_le Px]at this;rw[<-this];rfl
   subst bz;have dp:=lh aF;clear aF HS O HR fY Mg;go_wp2_with fail
   refine(HV.o _ (Y.o.bel dp.o.bel)).mono ?_;rintro e w4⟨vv,rfl,tQ,fX,dr⟩;obtain⟨pv,CB,rfl,CC,Fm,iH⟩:=tQ.form2;have iT:=dp.o.on fX;have nu:=lh iT;have Fo:=lh tQ;obtain⟨zv,eQ⟩:=zX wr.heap.size
   rw[<-eQ]at Fo;clear tQ fX iT dp HV eQ;go_wp2_with fail
   refine(Cz.o _ (Y.o.bel nu.o.bel)).mono ?_;rintro e w5⟨v5,rfl,hZ,iC⟩;obtain⟨p5,rc,rfl,jh,mP,gC⟩:=hZ.slice;obtain⟨lx,vH,N5,io⟩:=en (nu.o.on iC) (Fo.o.bel iC) hZ gC;obtain⟨zf,Au⟩:=zX w4.heap.size
   rw[<-Au]at N5;obtain⟨m,eT⟩:=zX Q.length
   have Eh:m<=9223372036854775807:=by unfold maxLen at mP;omega
   rw[<-eT]at jh N5 nh ⊢;have bT:=lh eT;have pG:=lh iH;obtain⟨nV,Fp⟩:=zX V.length
   rw[<-Fp]at CC vH dr ⊢;have Aq:=lh Fp;clear hZ iC gC Au eT iH nu Fo Fp;go_wp2_with fail
   go_loopw [42] (λi wr=>∃(k:Nat),k<=m/\i=(vI k)/\Hid (EsInv w (w.heap.size+1) T wr)/\Hid (Zz wr zv (.slice pv nV CB) V)/\Hid (ll wr zf (.slice p5 m rc) Q)/\Hid (ZA T V body ((Q.map ATree.text).take k) ((Q.map ATree.text).drop k)=R2)) (λi _=>m-(intOf i).toNat)
   case atStart=>exact⟨0,Yh _,rfl,lx,vH,N5,lh bA.o.symm⟩
   case round=>
    obtain⟨k,hk,rfl,HS,TV,O,HR⟩:=hrel;clear lx vH N5;by_cases bX:k<m
    .obtain⟨x,hx⟩:∃x,Q[k]? =some x:=⟨_,Y6 RB⟩
     obtain⟨g0,hp⟩:=io.o k x hx;subst hp;have cx:=O.o.cell rfl hx;have U:=(Y.o.bel HS.o.bel).kid (qV.o x (Yd hx));have c1:=U.c1;refine Zu0 ?_;intro v bh bc sv;have mO:=(Y1.1 bh).1;have jn:=U.lt;have se:(Q.map ATree.text)[k]?=some x.text:=Rq
     have p:=Zjo (L:=T) (V:=V) (b:=body) se;rw[HR.o]at p;obtain⟨ps,ns,cs,rfl⟩:=bc.slice;obtain⟨tx,oC⟩:=zX x.text
     rw[<-oC]at c1 p;have eh:kW wr (wr.alloc (.cells #[vP x.b] 22)):=(Y2 _ _).alloc (Y0 _) _;have HC:=lh (YC (w:=(wr.alloc (.cells #[vP x.b] 22)).drew) (bc.bel eh.drew) tx);obtain⟨cb,mf⟩:=zX (Lib.containsS T tx)
     rw[<-mf]at HC p;have qq:((Q.map ATree.text).take k).any (λo=>Zg o tx)=(Q.take k).any (λo=>Zg o.text tx):=by
      rw[<-List.map_take,List.any_map];rfl
     rw[qq]at p;obtain⟨F,TX,tR,eJ,Fq,HX⟩:=gq p bc eh U oC hx;have JB:(wr.alloc (.cells #[vP x.b] 22)).cell? ⟨w.heap.size+1,0,none⟩=some (.slice ps ns cs):=(Zc Qs).trans sv;have JC:(wr.alloc (.cells #[vP x.b] 22)).cell? ⟨x.b,1,none⟩=some (.string tx):=(Zc (by show x.b<_;exact jn)).trans c1
     have Fs:(wr.alloc (.cells #[vP x.b] 22)).cell? ⟨wr.heap.size,0,none⟩=some (vP x.b):=PE
     clear U bh bc se p oC mf hx qq eh;go_wp2_with fail
     refine Z7 [0,2,4,6,8] [5] (λW=>vC W (w.heap.size+1) 0 (.slice ps ns cs)/\vC W wr.heap.size 0 (vP x.b)/\vC W x.b 1 (.string tx)) ⟨JB,Fs,JC⟩ λ_=>?_;refine dU ?_
     iterate 5
      refine fa ?_
     refine Z0 ?_;go_wp2_with fail
     refine HC.o.mono ?_;rintro e w'⟨rfl,X⟩;rw[X];clear X w' HC;cases cb
     .have mj:=lh (Y.o.bel ((HS.o.on tR.o.drew).bel));go_wp2_with fail
      refine(Cz.o _ mj.o).mono ?_;rintro e I⟨v6,rfl,CD,la⟩;obtain⟨p6,Ft,rfl,Fu,Fv,Av⟩:=CD.slice;obtain⟨g6,rfl⟩:=Av k x HX.o;rw[<-bT.o]at Fu ⊢;have js:kW wr I:=tR.o.drew.trans (la.mono tR.o.drew.size);obtain⟨pM,JD,JE,xO⟩:=en (HS.o.on js) (TV.o.bel js) (O.o.bel js) js;have tS:vC I x.b 1 (.string tx):=(Yb (js.block x.b jn)).trans c1
      have Fw:vC I wr.heap.size 0 (vP x.b):=(Yb (la.block wr.heap.size (by show wr.heap.size<(wr.alloc _).heap.size;simp))).trans Fs;have fj:(Q.take k).length=k:=by rw[List.length_take,<-bT.o];omega
      have Fx:=(Y9 CD g6 rfl).2;have xG:TreeAt I B x:=eJ.o.bel js;have sF:wr.heap.size<I.heap.size:=by
       have:=la.size;have h2:(wr.alloc (.cells #[vP x.b] 22)).drew.heap.size=wr.heap.size+1:=PE
       omega
      have kQ:=Zxx ⟨wr.heap.size,0,none⟩ ATree.ptr (λo=>Zg o.text tx) (Below I.heap.size I) (some ⟨g6,0,none⟩) Ft (Q.take k) I Px Px
       (fun i y hy => ⟨g6, 0, rfl, fun w1 h => by
        rw[Nat.zero_add];have hq:Q[i]?=some y:=by
         rw[List.getElem?_take]at hy;split at hy;·exact hy
         .cases hy
        exact(Yb (h.block g6 Fx)).trans (CD.cell rfl hq)⟩)
       (fun y hy w1 h => by
        have Mh:y∈Q:=List.mem_of_mem_take hy;have Mi:TreeAt w1 B y:=((Y.o.bel pM.o.bel).kid (qV.o y Mh)).bel h;rw[Fq.o];exact(Zku w1 B wr.heap.size y x Mi (xG.bel h) ((Yb (h.block wr.heap.size sF)).trans Fw)).mono λe w2 ⟨h1,h2⟩=>⟨h1,h.trans (h2.mono h.size)⟩)
       (Y2 _ _)
      rw[fj]at kQ;have nJ:=lh kQ;obtain⟨ag,Aw⟩:=zX ((Q.take k).any (λo=>Zg o.text tx))
      rw[<-Aw]at nJ F;have CE:k<=Ft:=Px
      have Mj:(k:Int)<=(Ft:Int):=Px
      have JF:(k:Int)<=(m:Int):=Px
      unfold maxLen at Fv;clear CD la Av kQ Aw fj xG js;go_wp2_with fail
      refine nJ.o.mono ?_;rintro e w7⟨rfl,J⟩;obtain⟨lu,Fy,JG⟩:=ds (pM.o.on J) (JD.o.bel J) (JE.o.bel J);have Fz:x.b<I.heap.size:=Y7 jn xO.o.size;have OW:vC w7 x.b 1 (.string tx):=(Yb (J.block x.b Fz)).trans tS;have OX:vC w7 wr.heap.size 0 (vP x.b):=(Yb (J.block wr.heap.size sF)).trans Fw;clear J nJ pM JD JE HS TV O tS Fw c1 Fs JC JB sv;cases body
      .cases ag
       .have lW:=lh (YC Fy.o tx);obtain⟨Ml,iM⟩:=zX (Lib.containsS V tx)
        rw[<-iM]at lW F;clear iM;go_wp2_with fail
        refine lW.o.mono ?_;rintro e w'⟨rfl,X⟩;rw[X];clear X w' lW;cases Ml
        .go_wp2;go_roundw
         case rel=>
          have h1:=F.o;simp only[Bool.not_false,Bool.true_and,Bool.or_self,Bool.false_or]at h1;exact⟨k+1,by omega,by go_num,lu,Fy,JG,lh h1.symm⟩
         case measure=>simp[intOf];omega
        .go_wp2;go_ret;refine⟨?_,lu.o.bel⟩;have h1:=F.o;simp only[Bool.not_false,Bool.true_and,Bool.or_true,Bool.true_or]at h1;rw[Z.o,h1];rfl
       .go_wp2;go_ret;refine⟨?_,lu.o.bel⟩;have h1:=F.o;simp only[Bool.not_false,Bool.true_and,Bool.or_true,Bool.true_or]at h1;rw[Z.o,h1];rfl
      .go_wp2;go_roundw
       case rel=>
        have h1:=F.o;simp only[Bool.not_true,Bool.false_and,Bool.or_self,Bool.false_or]at h1;exact⟨k+1,by omega,by go_num,lu,Fy,JG,lh h1.symm⟩
       case measure=>simp[intOf];omega
     .go_wp2;go_ret;refine⟨?_,(HS.o.on tR.o.drew).bel⟩;have h1:=F.o;simp only[Bool.true_or]at h1;rw[Z.o,h1];rfl
    .have aR:k=m:=by omega
     subst aR;have hr2:R2=false:=by
      have:=HR.o;have hl:(Q.map ATree.text).length=k:=by rw[Ym,<-bT.o]
      rw[Ye Px,List.drop_of_length_le Px]at this;rw[<-this];rfl
     subst hr2;refine Zu0 ?_;intro v bh bc sv;have mO:=(Y1.1 bh).1;have JH:∀g,pv=some ⟨g,0,none⟩->g<wr.heap.size:=λg h=>(Y9 TV.o g (by rw[h];rfl)).2
     have kQ:=Zy1 ⟨w.heap.size+1,0,none⟩ Value.string (λs=>Lib.containsS T s) (Below wr.heap.size wr) pv CB V wr (by unfold maxLen at Fm;rw[<-Aq.o];omega) (by rw[<-Aq.o];exact CC)
      (fun i y hy => by
       obtain⟨g,hg⟩:=pG.o i y hy;refine⟨g,0,hg,λw1 h=>?_⟩;rw[Nat.zero_add];exact(Yb (h.block g (JH g hg))).trans (TV.o.cells (by rw[hg];rfl) hy))
      (λy hy w1 h=>(Zjv w1 (w.heap.size+1+1) (w.heap.size+1) v T y (bc.bel h) ((Yb (h.block _ mO)).trans sv)).mono λe w2 ⟨h1,h2⟩=>⟨h1,by rw[h2];exact h⟩)
      (Y2 _ _)
     rw[<-Aq.o]at kQ;have nJ:=lh kQ;obtain⟨r3,de⟩:=zX (V.any (λs=>Lib.containsS T s))
     rw[<-de]at nJ Z;have CA:=lh HS.o.bel;clear bh bc kQ de JH HS TV O HR bA;go_wp2_with fail
     refine nJ.o.mono ?_;rintro e w7⟨rfl,J⟩;have o9:=zT CA J;clear J nJ;cases r3
     .go_wp2;go_ret;exact⟨by rw[Z.o];rfl,o9.o⟩
     .go_wp2;go_ret;exact⟨by rw[Z.o];rfl,o9.o⟩
def ATree.free(M:MRep)(a:ATree):Prop:=∀k∈a.blocks,¬M.has k
section
variable {C:RCtx}{M M':MRep}{w w' wA w1:kV}{s s':MSt}{B:Nat}{a:ATree}
def MFr.tree(f:MFr M M' w w')(h:TreeAt w B a)(hf:a.free M):TreeAt w' B a/\a.free M':=
 ⟨h.keepB λk hk=>f.block k (h.has k hk).2 (hf k hk),λk hk=>f.free k (h.has k hk).2 (hf k hk)⟩
def MFr.nodes(f:MFr M M' w w'){z:Nat}{v:Value}{l:List ATree}(h:ll w z v l)(hf:∀g,v.ownBlock=some g->¬M.has g):ll w' z v l:=
 Z3 h λg m=>f.block g (Y9 h g m).2 (hf g m)
def ATree.free.kid(hf:a.free M){x:ATree}(hx:x∈a.kids):x.free M:=by
 intro k hk;refine hf k ?_;obtain⟨b,v,g,t,n,l⟩:=a;simp only[ATree.blocks,List.mem_cons,List.mem_append,Z2d];exact .inr (.inr (List.mem_flatMap.2 ⟨x,hx,hk⟩))
def Inv.lens{d:Nat}(h:Inv s d):(∀(m:Nat) (c:LScope),s.H.scopes[m]?=some c->c.names.length<1099511627776)/\(∀(m:Nat) (o:LObj),s.H.objects[m]?=some o->o.props.length<1099511627776)/\
 s.H.scopes.length<1000000000/\s.H.objects.length<1000000000/\s.owners.length<1000000000/\s.clos.length<1000000000/\s.log.length<1000000000/\s.seen.length<1000000000:=by
 have g:=h.steps;have h1:=h.szO;have p:=h.szS;have u:=h.szC;have y:=h.szL;have h5:=h.szN;have F:=h.own;refine⟨λm c hm=>?_,λm o hm=>?_,by omega,by omega,by omega,by omega,by omega,by omega⟩
 .have:=(h.scp c (Yd hm)).2.2.2;omega
 .have:=(h.obj o (Yd hm)).2.2.2;omega
def Zox{N:Nat->Int}{P:List ATree}{k:Nat}{x:ATree}{sc:Int}(hx:P[k]?=some x) :
 s.lets ((P.take (k+1)).map (ATree.nt N)) sc=(s.lets ((P.take k).map (ATree.nt N)) sc).declare sc x.text (if x.kind=4 then 2 else 1) LVal.zero:=by
 obtain⟨g,m⟩:=List.getElem?_eq_some_iff.1 hx;unfold MSt.lets;rw[List.take_succ_eq_append_getElem g,m,Yl,List.foldl_append];show MSt.declare _ _ (x.nt N).text (if(x.nt N).kind=4 then 2 else 1) _=_;rw[rH,Zb]
def Z84(h:MAt C M w s){d:Nat}(hI:Inv s (d+a.kids.length))(ha:TreeAt w B a)(hf:a.free M)(hn:a.kids.length<1099511627776)(sc:Int) :
 kC 21 #[vP C.mb,a.ptr,vI sc] w λe w'=>e=.returned (.tuple #[])/\
  ∃M',MAt C M' w' (s.lets (a.nt C.N).lets sc)/\MFr M M' w w':=by
 have HL:=lh (YU w B a ha hn);rw[Zb1];obtain⟨P,hP⟩:=zX (a.kids.filter vG)
 rw[<-hP]at HL ⊢;have vJ:P.length<=a.kids.length:=Rl
 refine Zrd ?_;intro nj;obtain⟨HM,HI,HT,HF,mN⟩:=gp h hI ha hf vJ;clear h hI ha hf hP vJ;unfold ATree.ptr at HL ⊢;go_enter func21,ntmps21
 go_wp2_with fail
 refine HL.o.mono ?_;rintro e w2⟨v2,rfl,u,O⟩;have aM:=HM.o.below O;obtain⟨p2,jR,rfl,dF,fQ,dc⟩:=u.slice;have X:∀g,(Value.slice p2 P.length jR).ownBlock=some g->¬M.has g:=λg hg=>HM.o.fresh (Y9 u g hg).1;refine Og ?_;intro q cS ni;rw[<-cS]at dF u X ⊢;obtain⟨N2,kK,gR,HQ1,bR,aN,gy⟩:=gw u X dc cS aM O (HT.o.bel O);clear u O aM X dc cS HL HT;go_wp2_with fail
 go_loopw [12] (λi wr=>∃(k:Nat) (M1:MRep),k<=q/\i=(vI k)/\Hid (MAt C M1 wr (s.lets ((P.take k).map (ATree.nt C.N)) sc))/\Hid (MFr M M1 w2 wr)) (λi _=>q-(intOf i).toNat)
 case atStart=>exact⟨0,M,Yh _,rfl,bR,lh (MFr.refl _ _)⟩
 case round=>
  obtain⟨k,M1,hk,rfl,U,y⟩:=hrel;by_cases bX:k<q
  .obtain⟨x,hx⟩:∃x,P[k]? =some x:=⟨_,Y6 PP⟩
   obtain⟨g0,hp⟩:=gR.o k x hx;subst hp;have Y:=nj.o x (Yd hx);have cx:=(y.o.nodes N2.o kK.o).cell rfl hx;obtain⟨Z,Mm⟩:=y.o.tree (gy.o.kid Y) (HF.o.kid Y);have c0:=Z.c0;have c1:=Z.c1;have JI:=(VO (s:=s) (sc:=sc) (l:=(P.take k).map (ATree.nt C.N)) (d:=0) (HI.o.less (by rw[Ym,List.length_take];have:=mN.o;omega))).1;have m:=lh (Zak U.o.drew.heap sc x.text (if x.kind=4 then 2 else 1) LVal.zero JI.lens.1);have xP:=lh (Zox (s:=s) (N:=C.N) (sc:=sc) hx);clear Z Mm Y JI
   by_cases p:x.kind=4
   .rw[p]at c0;rw[Y5 p]at m;go_wp2_with fail
    refine Z7 [0,2,4,6,8,10,12,14,16,18] [10] (λW=>vC W x.b 1 (.string x.text)) c1 λ_=>?_;refine dU ?_
    iterate 10
     refine fa ?_
    refine Z0 ?_;go_wp2_with fail
    refine m.o.mono ?_;rintro e w3⟨rfl,ρ',L',F,I⟩;obtain⟨J,a2⟩:=U.o.drew.heapStep F I;have oZ:=lh J;have o5:=lh ((MFr.drew (.refl M1 wr)).trans a2);clear J a2 F I m;go_wp2_with fail
    go_roundw
    case rel=>
     refine⟨k+1,_,by omega,by go_num,lh ?_,lh (y.o.trans o5.o)⟩;have e:=xP.o;rw[Y5 p]at e;rw[e];exact oZ.o
    case measure=>simp[intOf];omega
   .have b4:(x.kind==4)=false:=by simp[p]
    rw[Y3 p]at m;go_wp2_with fail
    refine Z7 [0,2,4,6,8,10,12,14,16,18] [10] (λW=>vC W x.b 1 (.string x.text)) c1 λ_=>?_;refine dU ?_
    iterate 10
     refine fa ?_
    refine Z0 ?_;go_wp2_with fail
    refine m.o.mono ?_;rintro e w3⟨rfl,ρ',L',F,I⟩;obtain⟨J,a2⟩:=U.o.drew.heapStep F I;have oZ:=lh J;have o5:=lh ((MFr.drew (.refl M1 wr)).trans a2);clear J a2 F I m;go_wp2_with fail
    go_roundw
    case rel=>
     refine⟨k+1,_,by omega,by go_num,lh ?_,lh (y.o.trans o5.o)⟩;have e:=xP.o;rw[Y3 p]at e;rw[e];exact oZ.o
    case measure=>simp[intOf];omega
  .have aR:k=q:=by omega
   subst aR;go_wp2;go_end0
   refine⟨rfl,M1,?_,(MFr.of_below aN.o).trans y.o⟩;have:=U.o;rwa[Ye Qx]at this
def TreeAt.typed(h:TreeAt w B a):∀k∈a.blocks,∃c T f,w.heap[k]?=some (.cells c T f)/\(T=41\/T=22):=by
 induction h with
 | @mk b v kind text n kids blk le row m p=>
   intro k hk;simp only[ATree.blocks,List.mem_cons,List.mem_append,Z2d,List.mem_flatMap]at hk;rcases hk with rfl|hk|⟨x,hx,hk⟩;·exact⟨_,_,_,blk,.inl rfl⟩
   .rcases row.2 with⟨rfl,_⟩|⟨g,cap,y,rfl,_,u,_⟩;·simp[Value.ownBlock]at hk
    .simp only[Value.ownBlock,Option.mem_toList,Option.some.injEq]at hk;subst hk;exact⟨_,_,_,u,.inr rfl⟩
   .exact p x hx k hk
def MAt.aside(h:MAt C M w s){b:Nat}{c:Array Value}{T:TypeId}{f:Nat×Nat}(hb:w.heap[b]?=some (.cells c T f))(h1:T≠41)(F:T≠22)(hf:¬M.has b)(I:C.w0.heap.size<=b)
 (hs:w'.heap.size=w.heap.size)(hk:∀k,k≠b->w'.heap[k]?=w.heap[k]?)(ho:w'.os=w.os)(ht:w'.tape=w.tape)(hp:w'.output=w.output):MAt C M w' s where
 heap:=h.heap.keep (Nat.le_of_eq hs.symm) λk hr=>hk k λe=>hf (.inl (e▸hr))
 cell o x hx:=(Yb (hk _ λe=>hf (e▸h.mbHas))).trans (h.cell o x hx)
 rcell i hi:=(Yb (hk _ λe=>hf (e▸h.mbHas))).trans (h.rcell i hi)
 fz o:=(Yn (hk _ λe=>hf (e▸h.mbHas))).trans (h.fz o)
 rows i hi:=Z3 (h.rows i hi) λg p=>hk g λe=>hf (.inr ⟨i,hi,e▸p⟩)
 rfree i hi g p:=⟨(h.rfree i hi g p).1,by rw[hs];exact(h.rfree i hi g p).2⟩
 rdist:=h.rdist
 clos:=h.clos
 trees x hx:=⟨(h.trees x hx).1.keepB λk u=>hk k λe=>by
  obtain⟨c',T',J,y,m⟩:=(h.trees x hx).1.typed k u;rw[e,hb]at y;cases y;rcases m with m|m;·exact h1 m
  .exact F m,(h.trees x hx).2⟩
 old:=⟨ho.trans h.old.os,ht.trans h.old.tape,hp.trans h.old.output,Y4 h.old.size (Nat.le_of_eq hs.symm),λk u=>(hk k Px).trans (h.old.block k u)⟩
 far:=h.far
def MAt.local{b:Nat}{c:Array Value}{T:TypeId}{f:Nat×Nat}{o:Nat}{v:Value}(h:MAt C M w s)(hb:w.heap[b]?=some (.cells c T f))(h1:T≠41)(g:T≠22)(hf:¬M.has b)(m:C.w0.heap.size<=b) :
 MAt C M (w.setCell ⟨b,o,none⟩ v) s:=
 h.aside hb h1 g hf m Qb (λk hk=>Y8 _ _ _ _ hk) rfl rfl rfl
end
section
variable {ρ:Nat->Option Role}{w:kV}{hb ho:Nat}{L:HL}{H:LHeap}
def Z6o(h:HeapAt ρ w hb ho L H)(n:Int) :
 kC 122 #[.pointer (some ⟨hb,ho,none⟩),vI n] w λe w'=>e=.returned (vI (H.objectOf n))/\w'=w:=by
 unfold LHeap.objectOf;rcases hob:H.scope? n with _|o
 .have HC:=lh (Vo h n hob);clear h hob;go_enter func122,ntmps122
  exact Nj
 .obtain⟨m,rfl,hm⟩:=LHeap.scope?_some hob;have HC:=lh (UX h m (getElem?_lt hm));have hc:w.cell? ⟨L.sb m,1,none⟩=some (vI o.object):=by have :=(h.scp m o hm).1;simp[vC,World.cell?,this]
  clear h hob hm;go_enter func122,ntmps122
  exact Nj
def Zg2(h:HeapAt ρ w hb ho L H)(n:Int) :
 kC 158 #[.pointer (some ⟨hb,ho,none⟩),vI n] w λe w'=>e=.returned (vI (H.outerOf n))/\w'=w:=by
 unfold LHeap.outerOf;rcases hob:H.scope? n with _|o
 .have HC:=lh (Vo h n hob);clear h hob;go_enter func158,ntmps158
  exact Nj
 .obtain⟨m,rfl,hm⟩:=LHeap.scope?_some hob;have HC:=lh (UX h m (getElem?_lt hm));have hc:w.cell? ⟨L.sb m,0,none⟩=some (vI o.outer):=by have :=(h.scp m o hm).1;simp[vC,World.cell?,this]
  clear h hob hm;go_enter func158,ntmps158
  exact Nj
def Zkr(h:HeapAt ρ w hb ho L H)(n:Int)(name:kB) :
 kC 159 #[.pointer (some ⟨hb,ho,none⟩),vI n,.string name] w λe w'=>e=.returned (vI (H.kindOf n name))/\kW w w':=by
 rcases hob:H.scope? n with _|s
 .have HC:=lh (Vo h n hob);have e:H.kindOf n name= -1:=by simp[LHeap.kindOf,hob]
  rw[e];clear h hob e;go_enter func159,ntmps159
  exact YT
 .obtain⟨m,rfl,hm⟩:=LHeap.scope?_some hob;have HC:=lh (UX h m (getElem?_lt hm));have hc:w.cell? ⟨L.sb m,1,none⟩=some (vI s.object):=by have :=(h.scp m s hm).1;simp[vC,World.cell?,this]
  by_cases aU:s.object<0
  .have y:=lh (λw1 (Y:kW w w1)=>Z73 (h.below Y) m s hm name);have hn0:decide (0<=s.object)=false:=by simp;omega
   rcases hk:s.idx name with _|k
   .have e:H.kindOf m name= -1:=by simp only[LHeap.kindOf,hob,if_neg (Int.not_le.2 aU),hk,Option.bind_none]
    rw[e];rw[hk]at y;simp only[Tm]at y;generalize s.object=O at *;clear h hob e hm hk;go_enter func159,ntmps159
    go_wp2_with fail
    refine HC.o.mono ?_;rintro e w1⟨rfl,rfl⟩;go_wp2_with fail
    refine(y.o _ (Y2 _ _)).mono ?_;rintro e w1⟨rfl,u⟩;have F:=lh u;clear u;go_wp2;go_ret;exact⟨rfl,F.o⟩
   .obtain⟨b,I,_⟩:=LScope.idx_some hk;have e:H.kindOf m name=b.kind:=by simp only[LHeap.kindOf,hob,if_neg (Int.not_le.2 aU),hk,Option.bind_some,I]
    rw[e];have J:=(h.scp m s hm).2;rcases Z4 J with⟨hv,hz⟩|⟨g,c,hv,h1,Z,cV⟩;·have:=getElem?_lt I;omega
    have U:=SH (f:=LBind.cells) (m:=6) (λ_=>rfl) J (g:=g) PW (i:=k) (j:=4) I rfl;rw[hk,hv]at y;simp only[Tm,Value.ownBlock,Option.map_some]at y;generalize s.object=O at *;generalize b.kind=kd at *;have HR:=lh U;clear h hob e hm hk I J hv h1 Z U;go_enter func159,ntmps159
    go_wp2_with fail
    refine HC.o.mono ?_;rintro e w1⟨rfl,rfl⟩;go_wp2_with fail
    refine(y.o _ (Y2 _ _)).mono ?_;rintro e w1⟨rfl,u⟩;have F:=lh u;clear u;go_wp2_with fail
    refine(y.o _ F.o).mono ?_;rintro e w2⟨rfl,u⟩;have X:=zT F u;have hr:w2.cell? ⟨g,k*6+4,none⟩=some (vI kd):=(X.o.cell (p:=⟨g,k*6+4,none⟩) cV).trans HR.o;clear u;go_wp2;go_ret;exact⟨rfl,X.o⟩
  .have e:H.kindOf m name= -1:=by simp only[LHeap.kindOf,hob,if_pos (Int.not_lt.1 aU)]
   rw[e];have hn0:decide (0<=s.object)=true:=PB
   generalize s.object=O at *;clear h hob e hm;go_enter func159,ntmps159
   exact YT
end
def Does(C:RCtx)(M:MRep)(w:kV)(s':MSt)(w':kV):Prop:=∃M',MAt C M' w' s'/\MFr M M' w w'
section
variable {C:RCtx}{M M' sC:MRep}{w w' dL:kV}{s s':MSt}
theorem MFr.cell(f:MFr M M' w w'){b o:Nat}(hb:b<w.heap.size)(hn:¬M.has b):w'.cell? ⟨b,o,none⟩=w.cell? ⟨b,o,none⟩:=Yb (f.block b hb hn)
def MFr.does(f:MFr M M' w w')(h:Does C M' w' s' dL):Does C M w s' dL:=by
 obtain⟨M1,h1,g⟩:=h;exact⟨M1,h1,f.trans g⟩
theorem MAt.does(h:MAt C M w s)(g:kW w w'):Does C M w s w':=⟨M,h.below g,.of_below g⟩
theorem Does.step{ρ':Nat->Option Role}{p:HL}{m:LHeap}(h:MAt C M w s)(g:HeapAt ρ' w' C.mb 0 p m)(f:Fr M.ρ ρ' C.mb 0 w w'):Does C M w (s.setH m) w':=⟨_,h.heapStep g f⟩
variable (h:MAt C M w s){d:Nat}(hI:Inv s d)
include h
theorem Wj(n:Int)(name:kB):kC 20 #[vP C.mb,vI n,.string name] w λe w'=>e=.returned (.bool (s.H.has n name))/\kW w w':=Vh h.heap n name
theorem Abv(n:Int)(name:kB):kC 118 #[vP C.mb,vI n,.string name] w λe w'=>e=.returned (.tuple #[(s.H.read n name).1.agg,da (s.H.read n name).2])/\kW w w':=Zpk h.heap n name
theorem Ac9(n:Int)(name:kB):kC 41 #[vP C.mb,vI n,.string name] w λe w'=>e=.returned (.tuple #[((s.H.get n name).getD LVal.zero).agg,.bool (s.H.get n name).isSome])/\kW w w':=Zhq h.heap n name
theorem Zz1(n:Int):kC 53 #[vP C.mb,vI n] w λe w'=>e=.returned (vI (s.H.code n))/\w'=w:=Zhy h.heap n
def AcB(n:Int)(name:kB):kC 140 #[vP C.mb,vI n,.string name] w λe w'=>e=.returned (.bool (s.H.drop n name).2)/\Does C M w (s.setH (s.H.drop n name).1) w':=
 (Zr9 h.heap n name).mono λe w' ⟨he,ρ',m,g,f⟩=>⟨he,.step h g f⟩
def Ac3(n:Int)(name:kB):kC 141 #[vP C.mb,vI n,.string name] w λe w'=>e=.returned (.bool (s.H.cut n name).2)/\Does C M w (s.setH (s.H.cut n name).1) w':=
 (Zlo h.heap n name).mono λe w' ⟨he,ρ',m,g,f⟩=>⟨he,.step h g f⟩
def Zsh(n:Int)(name:kB)(v:LVal):kC 80 #[vP C.mb,vI n,.string name,v.agg] w λe w'=>e=.returned (da (s.H.start n name v).2)/\Does C M w (s.setH (s.H.start n name v).1) w':=
 (Zml h.heap n name v).mono λe w' ⟨he,ρ',m,g,f⟩=>⟨he,.step h g f⟩
include hI
def B7(n:Int)(name:kB)(v:LVal)(fixed:Bool):kC 16 #[vP C.mb,vI n,.string name,v.agg,.bool fixed] w λe w'=>e=.returned (da (s.H.put n name v fixed).2)/\Does C M w (s.put n name v fixed) w':=
 (Znk h.heap n name v fixed hI.lens.2.1).mono λe w' ⟨he,ρ',m,g,f⟩=>⟨he,.step h g f⟩
def Zf0(n:Int)(name:kB)(v:LVal):kC 124 #[vP C.mb,vI n,.string name,v.agg] w λe w'=>e=.returned (da (s.H.write n name v).2)/\Does C M w (s.write n name v) w':=
 (Zmq h.heap n name v hI.lens.2.1).mono λe w' ⟨he,ρ',m,g,f⟩=>⟨he,.step h g f⟩
def Vp(n:Int)(name:kB)(kind:Int)(v:LVal):kC 44 #[vP C.mb,vI n,.string name,vI kind,v.agg] w λe w'=>e=.returned (da (s.H.declare n name kind v).2)/\Does C M w (s.declare n name kind v) w':=
 (Zak h.heap n name kind v hI.lens.1).mono λe w' ⟨he,ρ',m,g,f⟩=>⟨he,.step h g f⟩
def Zad(code:Int):kC 15 #[vP C.mb,vI code] w λe w'=>e=.returned (vI s.nextO)/\Does C M w (s.object code) w':=
 (Z8j h.heap code (by have:=hI.lens.2.2.2.1;omega)).mono λe w' ⟨he,ρ',m,g,f⟩=>⟨he,.step h g f⟩
def Wm(outer object owner:Int):kC 17 #[vP C.mb,vI outer,vI object,vI owner] w λe w'=>e=.returned (vI s.next)/\Does C M w (s.opens outer object owner) w':=
 (Zri h outer object owner hI.lens.2.2.1 hI.lens.2.2.2.2.1).mono λe w' ⟨he,M',h1,g⟩=>⟨he,M',h1,g⟩
end
structure Lo(C:RCtx)(M:MRep)(wE w:kV)(b:Nat)(c:Array Value)(T:TypeId):Prop where
 blk:w.heap[b]?=some (.cells c T (0,0))
 free:¬M.has b
 late:wE.heap.size<=b
 old:C.w0.heap.size<=wE.heap.size
section
variable {C:RCtx}{M M' sC:MRep}{w w' dL wE:kV}{s s':MSt}{b:Nat}{c:Array Value}{T:TypeId}
theorem Lo.lt(h:Lo C M wE w b c T):b<w.heap.size:=(Y1.1 h.blk).1
theorem Lo.fr(h:Lo C M wE w b c T)(f:MFr M M' w w'):Lo C M' wE w' b c T:=⟨(f.block b h.lt h.free).trans h.blk,f.free b h.lt h.free,h.late,h.old⟩
theorem Lo.cell(h:Lo C M wE w b c T){i:Nat}{x:Value}(hx:c[i]?=some x):w.cell? ⟨b,i,none⟩=some x:=by simp[vC,World.cell?,h.blk,hx]
theorem Lo.fz(h:Lo C M wE w b c T)(i:Nat):w.frozen? ⟨b,i,none⟩=false:=by simp[World.frozen?,h.blk]
theorem Lo.bel(h:Lo C M wE w b c T)(g:kW w w'):Lo C M wE w' b c T:=h.fr (.of_below g)
theorem Lo.new(h:MAt C M w s)(g:wE.heap.size<=w.heap.size)(m:C.w0.heap.size<=wE.heap.size)(c:Array Value)(T:TypeId):Lo C M wE (w.alloc (.cells c T)) w.heap.size c T:=⟨Yq w _,h.fresh (Y0 _),g,m⟩
def Lo.six{x y z:Value}(h:Lo C M wE w b #[x,y,z] T):vC w b 0 x/\vC w b 1 y/\vC w b 2 z/\w.frozen? ⟨b,0,none⟩=false/\w.frozen? ⟨b,1,none⟩=false/\w.frozen? ⟨b,2,none⟩=false:=
 ⟨h.cell rfl,h.cell rfl,h.cell rfl,h.fz 0,h.fz 1,h.fz 2⟩
theorem Lo.two{x y:Value}(h:Lo C M wE w b #[x,y] T):vC w b 0 x/\vC w b 1 y:=⟨h.cell rfl,h.cell rfl⟩
def Lo.put(h:Lo C M wE w b c T)(m:MAt C M w s)(g:MFr sC M wE w)(h1:T≠41)(p:T≠22)(i:Nat)(x:Value) :
 MAt C M (w.setCell ⟨b,i,none⟩ x) s/\MFr sC M wE (w.setCell ⟨b,i,none⟩ x)/\Lo C M wE (w.setCell ⟨b,i,none⟩ x) b (c.setIfInBounds i x) T:=by
 have hs:(w.setCell ⟨b,i,none⟩ x).heap.size=w.heap.size:=Qb
 have hk:∀k,k≠b->(w.setCell ⟨b,i,none⟩ x).heap[k]?=w.heap[k]?:=λk hk=>Y8 _ _ _ _ hk;refine⟨m.local h.blk h1 p h.free (Y4 h.old h.late),⟨g.os,g.tape,g.output,by rw[hs];exact g.size,λk u hf=>(hk k (by have:=h.late;omega)).trans (g.block k u hf),g.free⟩,⟨?_,h.free,h.late,h.old⟩⟩;have:=h.blk;simp[World.setCell,Array.getElem?_modify,this]
def Lo.beside{b':Nat}{c':Array Value}{T':TypeId}(h:Lo C M wE w b c T)(g:b≠b')(i:Nat)(x:Value):Lo C M wE (w.setCell ⟨b',i,none⟩ x) b c T:=
 ⟨(Y8 _ _ _ _ g).trans h.blk,h.free,h.late,h.old⟩
end
def rD(b:Nat):Value:=.iface 71 (vP b)
def LVal.arr(v:LVal):Array Value:=#[vI v.kind,vI v.n,.string v.s]
def lL(v:LVal):Obj:=.cells v.arr 76 (0,0)
def ax(C:RCtx)(M:MRep)(w:kV):Er->Value->Prop
 | .stop,v=>v=pY C.eb
 | .thr x,v=>∃b,v=rD b/\w.heap[b]?=some (lL x)/\¬M.has b
section
variable {C:RCtx}{M M' sC:MRep}{w w' dL wE:kV}{s s':MSt}
def ax.fr{e:Er}{v:Value}(h:ax C M w e v)(f:MFr M M' w w'):ax C M' w' e v:=by
 cases e with
 |stop=>exact h
 |thr x=>
   obtain⟨b,h1,g,m⟩:=h;have hl:=(Y1.1 g).1;exact⟨b,h1,(f.block b hl m).trans g,f.free b hl m⟩
def ax.ne{e:Er}{v:Value}(h:ax C M w e v):∃t p,v=.iface t (.pointer p)/\p≠none:=by
 cases e with
 |stop=>exact⟨_,_,h,by simp⟩
 |thr x=>
   obtain⟨b,h1,_⟩:=h;exact⟨_,_,h1,by simp⟩
def Lo.ret{b:Nat}{x y z x' y' z':Value}(h:Lo C M wE w b #[x,y,z] 56)(F:MAt C M w s)(I:MFr sC M wE w) :
 MAt C M (((w.setCell ⟨b,0,none⟩ x').setCell ⟨b,1,none⟩ y').setCell ⟨b,2,none⟩ z') s/\MFr sC M wE (((w.setCell ⟨b,0,none⟩ x').setCell ⟨b,1,none⟩ y').setCell ⟨b,2,none⟩ z')/\
  ∀m ev,ax C M w m ev->ax C M (((w.setCell ⟨b,0,none⟩ x').setCell ⟨b,1,none⟩ y').setCell ⟨b,2,none⟩ z') m ev:=by
 obtain⟨J,a2,a3⟩:=h.put F I Py Py 0 x';obtain⟨b1,b2,b3⟩:=a3.put J a2 Py Py 1 y';obtain⟨c1,c2,c3⟩:=b3.put b1 b2 Py Py 2 z';refine⟨c1,c2,λm ev he=>?_⟩;cases m with
 |stop=>exact he
 |thr v=>
   obtain⟨g,O,p,U⟩:=he;have u:g≠b:=λe=>by
    rw[e,h.blk]at p;unfold lL at p;simp at p
   exact⟨g,O,(Y8 _ _ _ _ u).trans ((Y8 _ _ _ _ u).trans ((Y8 _ _ _ _ u).trans p)),U⟩
def Znz(w:kV)(t:kB):kC 83 #[.string t] w λe w'=>∃b,e=.returned (rD b)/\kW w w'/\w.heap.size<=b/\w'.heap[b]?=some (lL (.say t)):=by
 have hs:=Zbe w t;simp only[LVal.agg]at hs;have p:=lh hs;clear hs;go_enter func83,ntmps83
 go_wp2_with fail
 refine p.o.mono ?_;rintro e w1⟨rfl,m⟩;have g:=lh m;clear m;go_wp2;go_ret;exact⟨w1.heap.size,rfl,g.o.alloc g.o.size _,g.o.size,Yq w1 _⟩
def Sf(h:MAt C M w s)(t:kB):kC 83 #[.string t] w λe w'=>∃v,e=.returned v/\ax C M w' (.thr (.say t)) v/\kW w w':=
 (Znz w t).mono λe w' ⟨b,h1,g,m,p⟩=>⟨_,h1,⟨b,rfl,p,h.fresh m⟩,g⟩
end
def cK(C:RCtx)(M:MRep)(w:kV)(r:MSt×Except Er LVal)(e:Ending)(w':kV):Prop:=
 ∃ M', MAt C M' w' r.1 ∧ MFr M M' w w' ∧ match r.2 with
   | .ok v=>e=.returned (.tuple #[v.agg,.nilIface])
   | .error x=>∃(v:LVal) (ev:Value),e=.returned (.tuple #[v.agg,ev])/\ax C M' w' x ev
def Ada(C:RCtx)(M:MRep)(w:kV)(r:MSt×Except Er Unit)(e:Ending)(w':kV):Prop:=
 ∃ M', MAt C M' w' r.1 ∧ MFr M M' w w' ∧ match r.2 with
   | .ok _=>e=.returned .nilIface
   | .error x=>∃ev:Value,e=.returned ev/\ax C M' w' x ev
def je(C:RCtx)(M:MRep)(w:kV)(r:MSt×Except Er (Bool×LVal))(e:Ending)(w':kV):Prop:=
 ∃ M', MAt C M' w' r.1 ∧ MFr M M' w w' ∧ match r.2 with
   | .ok v=>e=.returned (.tuple #[.bool v.1,v.2.agg,.nilIface])
   | .error x=>∃(b:Bool) (v:LVal) (ev:Value),e=.returned (.tuple #[.bool b,v.agg,ev])/\ax C M' w' x ev
def Zss:Obj:=.cells #[vI 0,vI 0,.string ⟨#[]⟩] 56 (0,0)
section
variable {C:RCtx}{M M':MRep}{w w':kV}{s s':MSt}{B:Nat}{a:ATree}
theorem Z1(w:kV)(o:Obj):kW w (w.alloc o):=(Y2 _ _).alloc (Y0 _) o
def Zgb(h:MAt C M w s)(n:Int):kC 130 #[vI n] w λe w'=>cK C M w (TM n s) e w':=by
 have y:=Z1 w Zss;have HL:=lh (Lo.new (wE:=w) h (Y0 _) h.old.size #[vI 0,vI 0,.string ⟨#[]⟩] 56);have HR:=lh (Sf (h.below y) T3);have ho:=Zp2 (w.alloc Zss) n;simp only[LVal.agg]at ho;obtain⟨HO,I,J⟩:=ds ho (h.below y) y;unfold Zss at HR HO I J;clear y h ho;unfold TM;by_cases hn:1000000000<n\/n< -1000000000
 .rw[Y5 hn];have hd:decide (1000000000<n)=true\/decide (1000000000<n)=false/\decide (n< -1000000000)=true:=by
   by_cases h1:1000000000<n;·exact .inl (decide_eq_true h1)
   .exact .inr ⟨decide_eq_false h1,decide_eq_true Px⟩
  have HN:=lh hn;clear hn;rcases hd with hd|⟨hd,rO⟩
  all_goals
   go_enter func130,ntmps130
   go_wp2_with fail
   refine HR.o.mono ?_;rintro e w1⟨ev,rfl,hE,g⟩;have m:=HL.o.bel g;obtain⟨O,U,X,z0,z1,z2⟩:=m.six;obtain⟨p,u,F⟩:=m.ret (x':=(vI 0)) (y':=(vI 0)) (z':=.string ⟨#[]⟩) (I.o.below g) ((MFr.of_below J.o).trans (.of_below g));obtain⟨HE,Y,Z⟩:=ds (F _ _ hE) p u;clear hE m p u F g;go_wp2;refine Yp (v:=.tuple #[LVal.zero.agg,ev]) ?_ rfl ?_;·simp[results,results130,go_sem,O,U,X,LVal.agg,LVal.zero]
   .exact⟨M,Y.o,Z.o,LVal.zero,ev,rfl,HE.o⟩
 .rw[Y3 hn];have hd:decide (1000000000<n)=false:=decide_eq_false Px;have rO:decide (n< -1000000000)=false:=decide_eq_false Px;go_enter func130,ntmps130
  go_wp2_with fail
  refine HO.o.mono ?_;rintro e w1⟨rfl,g⟩;have m:=HL.o.bel g;obtain⟨O,U,X,z0,z1,z2⟩:=m.six;obtain⟨p,u,F⟩:=m.ret (x':=(vI 3)) (y':=(vI n)) (z':=.string ⟨#[]⟩) (I.o.below g) ((MFr.of_below J.o).trans (.of_below g));have Y:=lh p;have Z:=lh u;clear m p u F g;go_wp2;refine Yp (v:=.tuple #[(LVal.num n).agg,.nilIface]) ?_ rfl ?_;·simp[results,results130,go_sem,O,U,X,LVal.agg,LVal.num]
  .exact⟨M,Y.o,Z.o,rfl⟩
def Zok(h:MAt C M w s)(v:LVal)(g:0<=v.kind)(h5:v.kind<=5):kC 131 #[vP C.mb,v.agg] w λe w'=>e=.returned (.string (Ul s.H v))/\kW w w':=by
 obtain⟨k,n,t⟩:=v;simp only at g h5;simp only[LVal.agg];have hB:=Z1 w (.cells #[vI k,vI n,.string t] 56);have HC:=lh (Zz1 ((h.below hB).drew) n);have HB:=lh hB;clear hB h;have x0:∀w:kV,(Instr.index 216 (.agg #[.string ⟨#[117,110,100,101,102,105,110,101,100]⟩,.string ⟨#[111,98,106,101,99,116]⟩,.string ⟨#[98,111,111,108,101,97,110]⟩,.string ⟨#[110,117,109,98,101,114]⟩,.string ⟨#[115,116,114,105,110,103]⟩,.string ⟨#[111,98,106,101,99,116]⟩]) (vI 0)).run Tryz.prog w=.ok (.string XJ) w:=λ_=>by kernel_rfl
 have u:∀w:kV,(Instr.index 216 (.agg #[.string ⟨#[117,110,100,101,102,105,110,101,100]⟩,.string ⟨#[111,98,106,101,99,116]⟩,.string ⟨#[98,111,111,108,101,97,110]⟩,.string ⟨#[110,117,109,98,101,114]⟩,.string ⟨#[115,116,114,105,110,103]⟩,.string ⟨#[111,98,106,101,99,116]⟩]) (vI 1)).run Tryz.prog w=.ok (.string Z9y) w:=λ_=>by kernel_rfl
 have y:∀w:kV,(Instr.index 216 (.agg #[.string ⟨#[117,110,100,101,102,105,110,101,100]⟩,.string ⟨#[111,98,106,101,99,116]⟩,.string ⟨#[98,111,111,108,101,97,110]⟩,.string ⟨#[110,117,109,98,101,114]⟩,.string ⟨#[115,116,114,105,110,103]⟩,.string ⟨#[111,98,106,101,99,116]⟩]) (vI 2)).run Tryz.prog w=.ok (.string Zer) w:=λ_=>by kernel_rfl
 have F:∀w:kV,(Instr.index 216 (.agg #[.string ⟨#[117,110,100,101,102,105,110,101,100]⟩,.string ⟨#[111,98,106,101,99,116]⟩,.string ⟨#[98,111,111,108,101,97,110]⟩,.string ⟨#[110,117,109,98,101,114]⟩,.string ⟨#[115,116,114,105,110,103]⟩,.string ⟨#[111,98,106,101,99,116]⟩]) (vI 3)).run Tryz.prog w=.ok (.string Zib) w:=λ_=>by kernel_rfl
 have I:∀w:kV,(Instr.index 216 (.agg #[.string ⟨#[117,110,100,101,102,105,110,101,100]⟩,.string ⟨#[111,98,106,101,99,116]⟩,.string ⟨#[98,111,111,108,101,97,110]⟩,.string ⟨#[110,117,109,98,101,114]⟩,.string ⟨#[115,116,114,105,110,103]⟩,.string ⟨#[111,98,106,101,99,116]⟩]) (vI 4)).run Tryz.prog w=.ok (.string Ziq) w:=λ_=>by kernel_rfl
 have J:∀w:kV,(Instr.index 216 (.agg #[.string ⟨#[117,110,100,101,102,105,110,101,100]⟩,.string ⟨#[111,98,106,101,99,116]⟩,.string ⟨#[98,111,111,108,101,97,110]⟩,.string ⟨#[110,117,109,98,101,114]⟩,.string ⟨#[115,116,114,105,110,103]⟩,.string ⟨#[111,98,106,101,99,116]⟩]) (vI 5)).run Tryz.prog w=.ok (.string Z9y) w:=λ_=>by kernel_rfl
 by_cases h5:k=5
 .subst h5;by_cases hc:s.H.code n=0
  .have hd:(s.H.code n !=0)=false:=by simp[hc]
   have e:Ul s.H ⟨5,n,t⟩=Z9y:=by simp[Ul,hc]
   exact Aa3
  .have hd:(s.H.code n !=0)=true:=by simp[hc]
   have e:Ul s.H ⟨5,n,t⟩=Z9t:=by simp[Ul,hc]
   exact Aa3
 .have b5:(k==5)=false:=by simp[h5]
  obtain⟨r,hr⟩:=zX (Ul s.H ⟨k,n,t⟩)
  rw[<-hr];have m:=lh hr;have p:=lh (show 0<=k/\k<=4 by omega);clear g h5 hr;go_enter func131,ntmps131
  go_wp2_with fail
  refine Z7 [0,2,4,6,8,10,12,14,16] [9,10,11] (λW=>vC W w.heap.size 0 (vI k)/\vC W w.heap.size 1 (vI n)) ⟨Ys _ _ _ 0,Ys _ _ _ 1⟩ λ_=>?_;refine dU ?_
  iterate 9
   refine fa ?_
  refine Z0 ?_;have g:=p.o;have hr:=m.o;rcases(show k=0\/k=1\/k=2\/k=3\/k=4 by omega)with rfl|rfl|rfl|rfl|rfl
  all_goals
   clear p m b5;simp only[Ul]at hr;simp at hr;subst hr;go_wp2;go_ret;exact⟨rfl,HB.o.drew⟩
def Zcw(h:MAt C M w s){d:Nat}(hI:Inv s d)(sc:Int)(name:kB):kC 161 #[vP C.mb,vI sc,.string name] w λe w'=>e=.returned (.tuple #[])/\Does C M w (s.loose sc name) w':=by
 have HH:=lh (Wj h sc name);unfold MSt.loose;by_cases g:s.H.has sc name=true
 .rw[Y5 g];rw[g]at HH;have p:=lh h;clear h hI g;go_enter func161,ntmps161
  go_wp2_with fail
  refine HH.o.mono ?_;rintro e w1⟨rfl,hB⟩;have HB:=lh hB;clear hB;go_wp2;exact Yp (v:=.tuple #[]) (by simp[results,results161,go_sem]) rfl ⟨rfl,p.o.does HB.o⟩
 .rw[Y3 g];rw[Bool.not_eq_true]at g;rw[g]at HH;obtain⟨o,ho⟩:=zX (s.H.objectOf sc)
  rw[<-ho];have HO:=lh (λw1 (hB:kW w w1)=>Z6o (h.below hB).heap sc);rw[<-ho]at HO;have u:=lh (λw1 (hB:kW w w1)=>B7 (h.below hB) hI o name LVal.zero false);have y:=lh (λw1 (hB:kW w w1)=>Vp (h.below hB) hI sc name 4 LVal.zero);clear h hI g ho;by_cases m:0<=o
  .rw[Y5 m];have hd:decide (0<=o)=true:=decide_eq_true m;exact tu3 u
  .rw[Y3 m];have hd:decide (0<=o)=false:=decide_eq_false m;exact tu3 y
def Zjj(N:Nat->Int)(ha:TreeAt w B a)(hn:a.kids.length<1099511627776)(name:kB) :
 kC 160 #[a.ptr,.string name] w λe w'=>e=.returned (.bool ((a.nt N).lets.any λk=>Zg k.text name))/\kW w w':=by
 have HL:=lh (YU w B a ha hn);rw[Zb1];obtain⟨P,hP⟩:=zX (a.kids.filter vG)
 rw[<-hP]at HL ⊢;refine Zrd ?_;intro nj;have F:=lh ha;obtain⟨R,g⟩:=zX ((P.map (ATree.nt N)).any λk=>Zg k.text name)
 rw[<-g];have U:=lh g;clear ha hP g;unfold ATree.ptr at HL ⊢;go_enter func160,ntmps160
 go_wp2_with fail
 refine HL.o.mono ?_;rintro e w2⟨v2,rfl,m,p⟩;obtain⟨p2,jR,rfl,X,fQ,I⟩:=m.slice;refine Og ?_;intro q cS ni;rw[<-cS]at X m ⊢;obtain⟨Y,Z,HQ1,J,gy⟩:=gp m I cS p (F.o.bel p);clear m p I cS HL F;go_wp2_with fail
 go_loopw [10] (λi wr=>∃(k:Nat),k<=q/\i=(vI k)/\wr=w2/\Hid (R=((P.drop k).map (ATree.nt N)).any λk=>Zg k.text name)) (λi _=>q-(intOf i).toNat)
 case atStart=>exact⟨0,Yh _,rfl,rfl,U⟩
 case round=>
  obtain⟨k,hk,rfl,rfl,u⟩:=hrel;by_cases bX:k<q
  .obtain⟨x,hx⟩:∃x,P[k]? =some x:=⟨_,Y6 PP⟩
   obtain⟨g0,hp⟩:=Z.o k x hx;subst hp;have O:=nj.o x (Yd hx);have cx:=Y.o.cell rfl hx;have c1:=(gy.o.kid O).c1;have y:=lh (show R=(Zg x.text name||((P.drop (k+1)).map (ATree.nt N)).any λk=>Zg k.text name) by
    obtain⟨hl,he⟩:=List.getElem?_eq_some_iff.1 hx;rw[u.o,Yt hl,he,List.map_cons,List.any_cons,rH])
   clear O hx u;by_cases hs:Zg x.text name=true
   .have g:R=true:=by rw[y.o,hs];rfl
    have hb:(x.text.toList==name.toList)=true:=by rw[Ti,hs]
    subst g;go_wp2;go_ret;exact⟨rfl,J.o⟩
   .rw[Bool.not_eq_true]at hs;have hb:(x.text.toList==name.toList)=false:=by rw[Ti,hs]
    have xh:=lh (show R=((P.drop (k+1)).map (ATree.nt N)).any λk=>Zg k.text name by rw[y.o,hs];rfl);clear y;go_wp2;go_roundw
    case rel=>exact⟨k+1,by omega,by go_num,trivial,xh⟩
    case measure=>simp[intOf];omega
  .have aR:k=q:=by omega
   subst aR;have g:R=false:=by rw[u.o,List.drop_eq_nil_of_le Qx];rfl
   subst g;go_wp2;go_ret;exact⟨rfl,J.o⟩
end
def ql(C:RCtx)(M:MRep)(w:kV)(r:MSt×Except Er LVal)(w':kV)(M':MRep)(k n:Int)(t:kB)(ev:Value):Prop:=
 MAt C M' w' r.1/\MFr M M' w w'/\match r.2 with
  | .ok v=>v=⟨k,n,t⟩/\ev=.nilIface
  | .error x=>ax C M' w' x ev
def mA(C:RCtx)(M:MRep)(w:kV)(r:MSt×Except Er (Bool×LVal))(w':kV)(M':MRep)(b:Bool)(k n:Int)(t:kB)(ev:Value):Prop:=
 MAt C M' w' r.1/\MFr M M' w w'/\match r.2 with
  | .ok v=>v=(b,⟨k,n,t⟩)/\ev=.nilIface
  | .error x=>ax C M' w' x ev
def ag(k n:Int)(t:kB):Value:=.agg #[vI k,vI n,.string t]
def vO(k n:Int)(t:kB):Obj:=.cells #[vI k,vI n,.string t] 56 (0,0)
def ru(C:RCtx)(wE:kV)(M:MRep)(w:kV)(r:MSt×Except Er LVal)(W:kV)(p:Nat)(M':MRep)(k n:Int)(t:kB)(ev:Value):Prop:=
 ql C M w r W M' k n t ev/\Lo C M' w W p #[vI k,vI n,.string t] 56
def Ld(C:RCtx)(wE:kV)(M:MRep)(w:kV)(r:MSt×Except Er (Bool×LVal))(W:kV)(p:Nat)(M':MRep)(b:Bool)(k n:Int)(t:kB)(ev:Value):Prop:=
 mA C M w r W M' b k n t ev/\Lo C M' w W p #[vI k,vI n,.string t] 56
section
variable {C:RCtx}{M M':MRep}{w w' W wE:kV}{s s':MSt}{B:Nat}{a:ATree}{k n:Int}{t:kB}{ev:Value}{b:Bool}
def Calls.vres{f:Nat}{args:Array Value}{r:MSt×Except Er LVal}(h:kC f args w λe w'=>cK C M w r e w') :
 kC f args w λe w'=>∃M' k n t ev,e=.returned (.tuple #[ag k n t,ev])/\ql C M w r w' M' k n t ev:=by
 refine h.mono ?_;rintro e w'⟨M',h1,m,g⟩;rcases hr:r.2 with x|v
 .rw[hr]at g;obtain⟨⟨k,n,t⟩,ev,rfl,p⟩:=g;exact⟨M',k,n,t,ev,rfl,h1,m,by rw[hr];exact p⟩
 .rw[hr]at g;obtain⟨k,n,t⟩:=v;exact⟨M',k,n,t,.nilIface,g,h1,m,by rw[hr];exact⟨rfl,rfl⟩⟩
def Calls.dres{f:Nat}{args:Array Value}{r:MSt×Except Er (Bool×LVal)}(h:kC f args w λe w'=>je C M w r e w') :
 kC f args w λe w'=>∃M' b k n t ev,e=.returned (.tuple #[.bool b,ag k n t,ev])/\mA C M w r w' M' b k n t ev:=by
 refine h.mono ?_;rintro e w'⟨M',h1,m,g⟩;rcases hr:r.2 with x|v
 .rw[hr]at g;obtain⟨b,⟨k,n,t⟩,ev,rfl,p⟩:=g;exact⟨M',b,k,n,t,ev,rfl,h1,m,by rw[hr];exact p⟩
 .rw[hr]at g;obtain⟨b,k,n,t⟩:=v;exact⟨M',b,k,n,t,.nilIface,g,h1,m,by rw[hr];exact⟨rfl,rfl⟩⟩
theorem ax.bel{x:Er}(h:ax C M w x ev)(g:kW w w'):ax C M w' x ev:=h.fr (.of_below g)
def ql.bel{r:MSt×Except Er LVal}(h:ql C M w r w' M' k n t ev)(hB:kW w' W):ql C M w r W M' k n t ev:=by
 exact Zzg
def mA.bel{r:MSt×Except Er (Bool×LVal)}(h:mA C M w r w' M' b k n t ev)(hB:kW w' W):mA C M w r W M' b k n t ev:=by
 exact Zzg
theorem ql.pre{r:MSt×Except Er LVal}(g:kW W w)(h:ql C M w r w' M' k n t ev):ql C M W r w' M' k n t ev:=⟨h.1,(MFr.of_below g).trans h.2.1,h.2.2⟩
theorem mA.pre{r:MSt×Except Er (Bool×LVal)}(g:kW W w)(h:mA C M w r w' M' b k n t ev):mA C M W r w' M' b k n t ev:=⟨h.1,(MFr.of_below g).trans h.2.1,h.2.2⟩
def ql.boxA{r:MSt×Except Er LVal}(h:ql C M w r w' M' k n t ev)(g:wE.heap.size<=w.heap.size)(m:C.w0.heap.size<=wE.heap.size) :
 ru C wE M w r (w'.alloc (vO k n t)) w'.heap.size M' k n t ev:=
 ⟨h.bel (Z1 _ _),Lo.new h.1 h.2.1.size (Y4 m g) _ _⟩
def mA.boxA{r:MSt×Except Er (Bool×LVal)}(h:mA C M w r w' M' b k n t ev)(g:wE.heap.size<=w.heap.size)(m:C.w0.heap.size<=wE.heap.size) :
 Ld C wE M w r (w'.alloc (vO k n t)) w'.heap.size M' b k n t ev:=
 ⟨h.bel (Z1 _ _),Lo.new h.1 h.2.1.size (Y4 m g) _ _⟩
def Zgf{w:kV}{b i:Nat}{c:Array Value}{T:TypeId}{x:Value}(h:w.heap[b]?=some (.cells c T (0,0))):(w.setCell ⟨b,i,none⟩ x).heap[b]?=some (.cells (c.setIfInBounds i x) T (0,0)):=by
 simp[World.setCell,Array.getElem?_modify,h]
def Lo.fill{p:Nat}{x y z x' y' z':Value}{M0:MRep}(h:Lo C M wE w p #[x,y,z] 56)(I:MAt C M w s)(m:MFr M0 M W w)(hp:W.heap.size<=p) :
 MAt C M (((w.setCell ⟨p,0,none⟩ x').setCell ⟨p,1,none⟩ y').setCell ⟨p,2,none⟩ z') s/\MFr M0 M W (((w.setCell ⟨p,0,none⟩ x').setCell ⟨p,1,none⟩ y').setCell ⟨p,2,none⟩ z')/\
  Lo C M wE (((w.setCell ⟨p,0,none⟩ x').setCell ⟨p,1,none⟩ y').setCell ⟨p,2,none⟩ z') p #[x',y',z'] 56/\
  ∀u ev,ax C M w u ev->ax C M (((w.setCell ⟨p,0,none⟩ x').setCell ⟨p,1,none⟩ y').setCell ⟨p,2,none⟩ z') u ev:=by
 have Y:MFr M M w w:=.refl M w;obtain⟨Z,OY⟩:=zX w
 have h':Lo C M W w p #[x,y,z] 56\/True:=.inr trivial;obtain⟨J,a3⟩:MAt C M (w.setCell ⟨p,0,none⟩ x') s/\Lo C M wE (w.setCell ⟨p,0,none⟩ x') p #[x',y,z] 56:=by
  exact⟨I.local h.blk Py Py h.free (Y4 h.old h.late),⟨Zgf h.blk,h.free,h.late,h.old⟩⟩
 obtain⟨b1,b3⟩:MAt C M ((w.setCell ⟨p,0,none⟩ x').setCell ⟨p,1,none⟩ y') s/\Lo C M wE ((w.setCell ⟨p,0,none⟩ x').setCell ⟨p,1,none⟩ y') p #[x',y',z] 56:=by
  exact⟨J.local a3.blk Py Py a3.free (Y4 h.old h.late),⟨Zgf a3.blk,h.free,h.late,h.old⟩⟩
 obtain⟨c1,c3⟩:MAt C M (((w.setCell ⟨p,0,none⟩ x').setCell ⟨p,1,none⟩ y').setCell ⟨p,2,none⟩ z') s/\Lo C M wE (((w.setCell ⟨p,0,none⟩ x').setCell ⟨p,1,none⟩ y').setCell ⟨p,2,none⟩ z') p #[x',y',z'] 56:=by
  exact⟨b1.local b3.blk Py Py b3.free (Y4 h.old h.late),⟨Zgf b3.blk,h.free,h.late,h.old⟩⟩
 have hs:(((w.setCell ⟨p,0,none⟩ x').setCell ⟨p,1,none⟩ y').setCell ⟨p,2,none⟩ z').heap.size=w.heap.size:=Qb
 have hk:∀q,q≠p->(((w.setCell ⟨p,0,none⟩ x').setCell ⟨p,1,none⟩ y').setCell ⟨p,2,none⟩ z').heap[q]?=w.heap[q]?:=λq hq=>
  (Y8 _ _ _ _ hq).trans ((Y8 _ _ _ _ hq).trans (Y8 _ _ _ _ hq))
 refine⟨c1,⟨m.os,m.tape,m.output,by rw[hs];exact m.size,λq hq hf=>(hk q Px).trans (m.block q hq hf),m.free⟩,c3,λu ev he=>?_⟩;cases u with
 |stop=>exact he
 |thr v=>
   obtain⟨g,O,F,U⟩:=he;have X:g≠p:=λe=>by
    rw[e,h.blk]at F;unfold lL at F;simp at F
   exact⟨g,O,(hk g X).trans F,U⟩
def ql.boxB{r:MSt×Except Er LVal}{k0 n0:Int}{t0:kB}(h:ql C M (w.alloc (vO k0 n0 t0)).drew r w' M' k n t ev)(hM:MAt C M w s)(hE:wE.heap.size<=w.heap.size)(hO:C.w0.heap.size<=wE.heap.size) :
 ru C wE M w r (((w'.setCell ⟨w.heap.size,0,none⟩ (vI k)).setCell ⟨w.heap.size,1,none⟩ (vI n)).setCell ⟨w.heap.size,2,none⟩ (.string t)) w.heap.size M' k n t ev:=by
 exact AcI
def mA.boxB{r:MSt×Except Er (Bool×LVal)}{k0 n0:Int}{t0:kB}(h:mA C M (w.alloc (vO k0 n0 t0)).drew r w' M' b k n t ev)(hM:MAt C M w s)(hE:wE.heap.size<=w.heap.size)(hO:C.w0.heap.size<=wE.heap.size) :
 Ld C wE M w r (((w'.setCell ⟨w.heap.size,0,none⟩ (vI k)).setCell ⟨w.heap.size,1,none⟩ (vI n)).setCell ⟨w.heap.size,2,none⟩ (.string t)) w.heap.size M' b k n t ev:=by
 exact AcI
end
section
variable {P:Program}{ai:Array Oper}{md:Region.Mode}{Q:Exit->Act->kV->Prop}{S:kV->Prop}{t:Nat}
theorem Zr{i j:Nat}{g m:Pl3}{b:Bool}{a:Act}{w:kV}(h:we P md ai Q S t (.go i g) b a w/\we P md ai Q S t (.go j m) b a w):we P md ai Q S t (.two i g j m) b a w:=h
end
section
variable {C:RCtx}{M M':MRep}{w w' W wE:kV}{s s':MSt}{B:Nat}{a:ATree}{k n:Int}{t:kB}{ev:Value}{b:Bool}
def ql.lo{r:MSt×Except Er LVal}{k0 n0:Int}{t0:kB}(h:ql C M (w.alloc (vO k0 n0 t0)).drew r w' M' k n t ev)(hM:MAt C M w s)(hE:wE.heap.size<=w.heap.size)(hO:C.w0.heap.size<=wE.heap.size) :
 Lo C M' wE w' w.heap.size #[vI k0,vI n0,.string t0] 56:=by
 exact YK
def mA.lo{r:MSt×Except Er (Bool×LVal)}{k0 n0:Int}{t0:kB}(h:mA C M (w.alloc (vO k0 n0 t0)).drew r w' M' b k n t ev)(hM:MAt C M w s)(hE:wE.heap.size<=w.heap.size)(hO:C.w0.heap.size<=wE.heap.size) :
 Lo C M' wE w' w.heap.size #[vI k0,vI n0,.string t0] 56:=by
 exact YK
theorem Zd(w:kV):kW w w.drew:=(Y2 _ _).drew
def TreeAt.row(ha:TreeAt w B a)(hf:a.free M)(hn:a.kids≠[]):∃m p,vC w a.b 3 (.slice (some ⟨m,0,none⟩) a.kids.length p)/\a.kids.length<=p/\p<=9223372036854775807/\
 (∀(i:Nat) (x:ATree),a.kids[i]?=some x->w.cell? ⟨m,i,none⟩=some (vP x.b))/\m<w.heap.size/\¬M.has m:=by
 have u:=ha.rowOf;rcases Z4 u with⟨_,I⟩|⟨m,p,y,J,F,O⟩;·exact absurd (List.length_eq_zero_iff.1 I) hn
 have c3:=ha.c3;rw[y]at c3 u;unfold maxLen at F;refine⟨m,p,c3,J,F,λi x hx=>Zs (x:=x.ptr) u (g:=m) rfl Rq,O,hf m ?_⟩;have e:=y;revert e;cases a with
 |mk b v k t n l=>
   intro e;simp only[ATree.v,ATree.kids]at e;subst e;simp[ATree.blocks,Value.ownBlock]
theorem ATree.free.blk(hf:a.free M):¬M.has a.b:=hf a.b (Aav a)
def frO(fr:Frm):Obj:=.cells #[.bool fr.strict,vI fr.vars] 63 (0,0)
def Zx8(h:MAt C M w s)(fr:Frm):kW w (w.alloc (frO fr))/\Lo C M w (w.alloc (frO fr)) w.heap.size #[.bool fr.strict,vI fr.vars] 63:=
 ⟨Z1 _ _,Lo.new h (Y0 _) h.old.size _ _⟩
def Znt(h:MAt C M w s)(fr:Frm):kW w ((w.alloc (frO fr)).alloc (vO 0 0 ⟨#[]⟩))/\Lo C M w ((w.alloc (frO fr)).alloc (vO 0 0 ⟨#[]⟩)) w.heap.size #[.bool fr.strict,vI fr.vars] 63/\
 Lo C M w ((w.alloc (frO fr)).alloc (vO 0 0 ⟨#[]⟩)) (w.heap.size+1) #[vI 0,vI 0,.string ⟨#[]⟩] 56:=by
 obtain⟨h1,h2⟩:=Zx8 h fr;have hs:(w.alloc (frO fr)).heap.size=w.heap.size+1:=World.size_alloc _ _;exact Zy0
def Zsi(h:MAt C M w s)(fr:Frm):kW w (((w.alloc (frO fr)).alloc (vO 0 0 ⟨#[]⟩)).alloc (vO 0 0 ⟨#[]⟩))/\Lo C M w (((w.alloc (frO fr)).alloc (vO 0 0 ⟨#[]⟩)).alloc (vO 0 0 ⟨#[]⟩)) w.heap.size #[.bool fr.strict,vI fr.vars] 63/\
 Lo C M w (((w.alloc (frO fr)).alloc (vO 0 0 ⟨#[]⟩)).alloc (vO 0 0 ⟨#[]⟩)) (w.heap.size+1) #[vI 0,vI 0,.string ⟨#[]⟩] 56/\
 Lo C M w (((w.alloc (frO fr)).alloc (vO 0 0 ⟨#[]⟩)).alloc (vO 0 0 ⟨#[]⟩)) (w.heap.size+1+1) #[vI 0,vI 0,.string ⟨#[]⟩] 56:=by
 obtain⟨h1,m,p⟩:=Znt h fr;have hs:((w.alloc (frO fr)).alloc (vO 0 0 ⟨#[]⟩)).heap.size=w.heap.size+1+1:=PE
 have g:=Lo.new (wE:=w) (h.below h1) Px h.old.size #[vI 0,vI 0,.string ⟨#[]⟩] 56;rw[hs]at g;exact⟨h1.trans ((Z1 _ _).mono h1.size),m.bel (Z1 _ _),p.bel (Z1 _ _),g⟩
def cK.err{W g:kV}{M1:MRep}{s1:MSt}{rb:Nat}{x0 m z0:Value}{x:Er}(hL:Lo C M w g rb #[x0,m,z0] 56)(hz:kW w g)(hM:MAt C M1 W s1)(hF:MFr M M1 g W)(he:ax C M1 W x ev) :
 cK C M w (s1,.error x) (.returned (.tuple #[.agg #[vI k,vI n,.string t],ev])) (((W.setCell ⟨rb,0,none⟩ (vI k)).setCell ⟨rb,1,none⟩ (vI n)).setCell ⟨rb,2,none⟩ (.string t)):=by
 refine Zts ?_;intro g1 g2 g3;exact⟨M1,g1,g2,⟨k,n,t⟩,ev,rfl,g3 _ _ he⟩
def cK.fine{W g:kV}{M1:MRep}{s1:MSt}{rb:Nat}{x0 m z0:Value}(hL:Lo C M w g rb #[x0,m,z0] 56)(hz:kW w g)(hM:MAt C M1 W s1)(hF:MFr M M1 g W) :
 cK C M w (s1,.ok ⟨k,n,t⟩) (.returned (.tuple #[.agg #[vI k,vI n,.string t],.nilIface])) (((W.setCell ⟨rb,0,none⟩ (vI k)).setCell ⟨rb,1,none⟩ (vI n)).setCell ⟨rb,2,none⟩ (.string t)):=by
 exact WW
def je.err{W g:kV}{M1:MRep}{s1:MSt}{rb:Nat}{x0 m z0:Value}{x:Er}(hL:Lo C M w g rb #[x0,m,z0] 56)(hz:kW w g)(hM:MAt C M1 W s1)(hF:MFr M M1 g W)(he:ax C M1 W x ev) :
 je C M w (s1,.error x) (.returned (.tuple #[.bool b,.agg #[vI k,vI n,.string t],ev])) (((W.setCell ⟨rb,0,none⟩ (vI k)).setCell ⟨rb,1,none⟩ (vI n)).setCell ⟨rb,2,none⟩ (.string t)):=by
 refine Zts ?_;exact AbI
def je.fine{W g:kV}{M1:MRep}{s1:MSt}{rb:Nat}{x0 m z0:Value}(hL:Lo C M w g rb #[x0,m,z0] 56)(hz:kW w g)(hM:MAt C M1 W s1)(hF:MFr M M1 g W) :
 je C M w (s1,.ok (b,⟨k,n,t⟩)) (.returned (.tuple #[.bool b,.agg #[vI k,vI n,.string t],.nilIface])) (((W.setCell ⟨rb,0,none⟩ (vI k)).setCell ⟨rb,1,none⟩ (vI n)).setCell ⟨rb,2,none⟩ (.string t)):=by
 exact WW
end
def Sx{A B:Prop}{H R:kV->Nat->MRep->Int->Int->kB->Value->Prop}(m:Hid (∀W p M k n t ev,H W p M k n t ev->R W p M k n t ev)->A)(u:Hid (∀W p M k n t ev,H W p M k n t ev->R W p M k n t ev)->B)
 (g:∀W p M k n t ev,H W p M k n t ev->R W p M k n t ev):A/\B:=⟨m (lh g),u (lh g)⟩
def Zjy{A B:Prop}{H R:kV->Nat->MRep->Bool->Int->Int->kB->Value->Prop}(m:Hid (∀W p M b k n t ev,H W p M b k n t ev->R W p M b k n t ev)->A)(u:Hid (∀W p M b k n t ev,H W p M b k n t ev->R W p M b k n t ev)->B)
 (g:∀W p M b k n t ev,H W p M b k n t ev->R W p M b k n t ev):A/\B:=⟨m (lh g),u (lh g)⟩
def zm(C:RCtx)(V:VF)(b:Int):Prop:=∀(w:kV) (M:MRep) (s:MSt) (a:ATree) (B:Nat) (sc:Int) (fr:Frm) (d:Nat),MAt C M w s->Inv s d->FAt s sc fr->b<=s.steps->s.steps<=20000->
 (a.nt C.N).wf .v->(a.nt C.N).tree.many<=1500->TreeAt w B a->a.free M->
 kC 78 #[vP C.mb,a.ptr,vI sc,.agg #[.bool fr.strict,vI fr.vars]] w λe w'=>cK C M w (V (a.nt C.N) sc fr s) e w'
def G8(C:RCtx)(D:DF)(b:Int):Prop:=∀(w:kV) (M:MRep) (s:MSt) (a:ATree) (B:Nat) (sc:Int) (fr:Frm) (d:Nat),MAt C M w s->Inv s d->FAt s sc fr->b<=s.steps->s.steps<=20000->
 (a.nt C.N).wf .s->(a.nt C.N).tree.many<=1500->TreeAt w B a->a.free M->
 kC 46 #[vP C.mb,a.ptr,vI sc,.agg #[.bool fr.strict,vI fr.vars]] w λe w'=>je C M w (D (a.nt C.N) sc fr s) e w'
