/- Package run: a row of the machine grows; open. -/
import Derived.Test.YtjikfacdcdiddaaGreatDoorJ15
set_option maxRecDepth 100000
set_option maxHeartbeats 20000000
set_option linter.unusedVariables false
set_option linter.unusedSimpArgs false
namespace Go.Proofs.YtjikfacdcdiddaaGreatDoor
open Go Go.RowKit
section
variable {C:RCtx}{M M':MRep}{w w' wA w1:World}{s s':MSt}
theorem MAt.push{i g n cap:Nat}{cl':List CloR}(h:MAt C M w s)(hi:i<4)(hA:Below w.heap.size w wA)(hG:wA.grownBy w1 (M.row i).ownBlock)(m:(M.row i).ownBlock=some g∨w.heap.size<=g)(cY:g<w1.heap.size)
 (ae:w1.ownsRow 0 (mK i) (mZ i) (.slice (some ⟨g,0,none⟩) n cap) (jS s' cl' i) (nc s' cl' i))
 (ov:∀j,j<4->j≠i->jS s' cl' j=jS s M.cl j∧nc s' cl' j=nc s M.cl j)(hH:s'.H=s.H)(iZ:lH C s'=lH C s)
 (gF:s'.clos=cl'.map (CloR.clo C.N))(l9:∀x∈cl',TreeAt w 0 x.a∧∀k∈x.a.blocks,¬M.has k) :
 ∃M',MAt C M' (w1.setCell ⟨C.mb,rowO i,none⟩ (.slice (some ⟨g,0,none⟩) n cap)) s'∧MFr M M' w (w1.setCell ⟨C.mb,rowO i,none⟩ (.slice (some ⟨g,0,none⟩) n cap)):=by
 obtain⟨E,I9⟩:∃E:Value,E=.slice (some ⟨g,0,none⟩) n cap:=⟨_,rfl⟩
 rw[<-I9]at ae ⊢;have X:∀k,E.ownBlock=some k->k=g:=λk hk=>by rw[I9]at hk;simp only[Value.ownBlock,Option.some.injEq]at hk;exact hk.symm
 obtain⟨k1,Y,k3,k4,k5,k6,Z,k8,k9,jI⟩:=WC E hA hG h.mbLt (h.rowNe hi) (h.rcell i hi);have p:=h.heap;have LM:g≠C.mb:=λe=>by
  rcases m with m|m;·exact h.rowNe hi (e▸m)
  .have:=h.mbLt;omega
 have mM:M.ρ g=none:=by
  rcases m with m|m;·exact(h.rfree i hi g m).1
  .exact p.fresh m
 have own:∀k,M.ρ k≠none->some k≠(M.row i).ownBlock:=λk hk e=>hk (h.rfree i hi k e.symm).1;have Ad:∀k,M.ρ k≠none->k≠C.mb->(w1.setCell ⟨C.mb,rowO i,none⟩ E).heap[k]?=w.heap[k]?:=λk hk F=>k4 k (p.live k hk) F (own k hk);have O:∀k r,M.ρ k=some r->r≠.hp->(w1.setCell ⟨C.mb,rowO i,none⟩ E).heap[k]?=w.heap[k]?:=λk r hk hr=>Ad k (by simp[hk]) (λe=>by rw[e,p.rhp]at hk;cases hk;exact hr rfl);have sB:∀j,j<4->j≠i->rowO j≠rowO i:=λj u y=>by
  revert y;have:=hi;match j,i,u,hi with
  |0,0,_,_=>exact λh=>absurd rfl h
  |0,1,_,_=>decide
  |0,2,_,_=>decide
  |0,3,_,_=>decide
  |1,0,_,_=>decide
  |1,1,_,_=>exact λh=>absurd rfl h
  |1,2,_,_=>decide
  |1,3,_,_=>decide
  |2,0,_,_=>decide
  |2,1,_,_=>decide
  |2,2,_,_=>exact λh=>absurd rfl h
  |2,3,_,_=>decide
  |3,0,_,_=>decide
  |3,1,_,_=>decide
  |3,2,_,_=>decide
  |3,3,_,_=>exact λh=>absurd rfl h
 have qa:rowO i≠0∧rowO i≠1∧rowO i∈[2,6,8,9]:=by
  match i,hi with
  |0,_=>decide
  |1,_=>decide
  |2,_=>decide
  |3,_=>decide
 have EV:∀o x,(o,x)∈lH C s->o≠rowO i:=λo x hx=>by
  have h3:=qa.2.2;simp only[lH,List.mem_cons,Prod.mk.injEq,List.not_mem_nil,or_false]at hx h3;omega
 have fp:∀k,k<w.heap.size->¬M.has k->¬({M with row:=λj=>if j=i then E else M.row j,cl:=cl'}:MRep).has k:=by
  intro k hk hf F;rcases F with F|⟨j,u,F⟩;·exact hf (.inl F)
  .by_cases y:j=i
   .subst y;simp only[if_true]at F;have :=X k F;subst this;rcases m with m|m;·exact hf (.inr ⟨j,hi,m⟩)
    .omega
   .simp only[y,if_false]at F;exact hf (.inr ⟨j,u,F⟩)
 have ac:∀k,k<w.heap.size->¬M.has k->(w1.setCell ⟨C.mb,rowO i,none⟩ E).heap[k]?=w.heap[k]?:=λk hk hf=>k4 k hk (λe=>hf (e▸h.mbHas)) (λe=>hf (.inr ⟨i,hi,e.symm⟩));have qc:(w1.setCell ⟨C.mb,rowO i,none⟩ E).heap.size=w1.heap.size:=PF
 refine⟨{M with row:=λj=>if j=i then E else M.row j,cl:=cl'},⟨?_,λo x hx=>?_,λj u=>?_,λo=>(k3 o).trans (h.fz o),λj u=>?_,λj u k hk=>?_,λj U k u Cj I J=>?_,gF,λx hx=>?_,?_,λk hk=>?_⟩,⟨k8,k9,jI,Z,ac,fp⟩⟩
 .rw[hH]
  exact⟨(Y 0 (Ne.symm qa.1)).trans p.cellO,(Y (0+1) (Ne.symm qa.2.1)).trans p.cellS,(k3 0).trans p.frO,(k3 (0+1)).trans p.frS,
   Z2 p.rowO λg m=>O g _ (p.rvo g m) Pm,Z2 p.rowS λg m=>O g _ (p.rvs g m) Pm,
   λi o ho=>⟨(O _ _ (p.rob i (getElem?_lt ho)) Pm).trans (p.obj i o ho).1,Z2 (p.obj i o ho).2 λg m=>O g _ (p.rpv i g (getElem?_lt ho) m) Pm⟩,
   λi o ho=>⟨(O _ _ (p.rsb i (getElem?_lt ho)) Pm).trans (p.scp i o ho).1,Z2 (p.scp i o ho).2 λg m=>O g _ (p.rnv i g (getElem?_lt ho) m) Pm⟩,
   p.rhp,p.rvo,p.rvs,p.rob,p.rpv,p.rsb,p.rnv,λb hb=>Y7 (p.live b hb) Z⟩
 .rw[iZ]at hx;exact(Y o (EV o x hx)).trans (h.cell o x hx)
 .by_cases y:j=i
  .subst y;simp only[if_true];exact k1
  .simp only[y,if_false];exact(Y _ (sB j u y)).trans (h.rcell j u)
 .by_cases y:j=i
  .subst y;simp only[if_true];exact Z2 ae λk hk=>k5 k (λe=>LM ((X k hk).symm.trans e))
  .simp only[y,if_false];rw[(ov j u y).1,(ov j u y).2];exact Z2 (h.rows j u) λk hk=>k4 k (h.rfree j u k hk).2 (λe=>h.rowNe u (e▸hk)) (λe=>y (h.rdist j i k u hi hk e.symm))
 .by_cases y:j=i
  .subst y;simp only[if_true]at hk;have:=X k hk;subst this;exact⟨mM,by rw[qc];exact cY⟩
  .simp only[y,if_false]at hk;exact⟨(h.rfree j u k hk).1,Y7 (h.rfree j u k hk).2 Z⟩
 .by_cases y:j=i
  .by_cases sC:U=i;·omega
   .subst y;simp only[if_true]at I;simp only[sC,if_false]at J;have :=X k I;subst this;rcases m with m|m;·exact h.rdist j U k u Cj m J
    .have:=(h.rfree U Cj k J).2;omega
  .by_cases sC:U=i
   .subst sC;simp only[if_true]at J;simp only[y,if_false]at I;have :=X k J;subst this;rcases m with m|m;·exact h.rdist j U k u Cj I m
    .have:=(h.rfree j u k I).2;omega
   .simp only[y,if_false]at I;simp only[sC,if_false]at J;exact h.rdist j U k u Cj I J
 .have ht:=l9 x hx;exact Zss
 .exact⟨k8.trans h.old.os,k9.trans h.old.tape,jI.trans h.old.output,Y4 h.old.size Z,λk hk=>(ac k (Y7 hk h.old.size) (h.far k hk)).trans (h.old.block k hk)⟩
 .exact fp k (Y7 hk h.old.size) (h.far k hk)
end
theorem Tryz.infoIntM:(Tryz.prog.info? 3).map (λi=>(i.zero,i.size,i.bytes))=some (some (vI 0),1,8):=by kernel_rfl
section
variable {C:RCtx}{M M':MRep}{w w' wA w1:World}{s s':MSt}
theorem MAt.aft(h:MAt C M w s){i:Nat}(hi:i<4){wA w1:World}(g:Below w.heap.size w wA)(m:wA.grownBy w1 (M.row i).ownBlock) :
 w1.heap[C.mb]?=w.heap[C.mb]?:=
 (m.block C.mb (Y7 h.mbLt g.size) (λe=>h.rowNe hi e.symm)).trans (g.block C.mb h.mbLt)
theorem Znl(h:MAt C M w s)(outer object owner:Int)(hn:s.H.scopes.length<1000000000)(ho:s.owners.length<1000000000) :
 Calls Tryz.prog 15 #[vP C.mb,vI outer,vI object,vI owner] w λe w'=>e=.returned (vI s.next)∧
  ∃M',MAt C M' w' (s.opens outer object owner)∧MFr M M' w w':=by
 obtain⟨i0,hi,aD,bo,bT⟩:=info_parts Tryz.infoIntM;have hc:=h.rcell 2 Pa;have hz:=h.fz 8;have m:=h.rows 2 Pa;obtain⟨v,p⟩:=zX (M.row 2)
 obtain⟨U,F⟩:=zX (nc s M.cl 2)
 obtain⟨n,y⟩:=zX s.owners.length
 rw[<-p]at hc m;rw[<-F,show jS s M.cl 2=n from y.symm]at m;simp only[mK,mZ,rowO]at hc m;rw[<-y]at ho;have X:∀o (w1:World),(w.alloc o).grownBy w1 v.ownBlock->vC w1 C.mb 8 v∧w1.frozen? ⟨C.mb,8,none⟩=false:=λo w1 E=>by
  have e:=h.aft (i:=2) Pa ((Y2 w.heap.size w).alloc (Y0 _) o) (p▸E);exact⟨(Yb e).trans hc,(Yn e).trans hz⟩
 have HA:=lh X;have I:=lh h;have Y:=lh p;have HX:=lh F;have HN:=lh y;have HO:=lh m;have HS:=lh hn;clear h p F y m hn X;go_enter Tryz.func15,Tryz.ntmps15
 go_wp2_with (at_builtin;go_must (refine wpList_append_lies _ rfl (.tmp 13) (.tmp 15) 52 rfl 0 3 i0 (vI 0) 1 8 Tryz.underlying52 hi aD bo bT rfl Pa v n U rfl (HO.o.alloc _) ⟨w.heap.size,0,none⟩ 1 1 [vI owner] rfl rfl (cell_one_new _ _ _) Pj O' Pc O' O' (w.heap.size+1) Pg ?_);intro g cap w1 Z J fU cY;obtain⟨jH,tE⟩:=HA.o _ _ J;have HG:=lh J;have HW:=lh Z;have HT:=lh fU;have uE:=lh cY;clear J Z fU cY)
 have E:(M.row 2).ownBlock=some g∨w.heap.size<=g:=by
  rw[<-Y.o];rcases HT.o with h|h;·exact .inl h
  .exact .inr O'
 have ae:w1.ownsRow 0 (mK 2) (mZ 2) (.slice (some ⟨g,0,none⟩) (n+1) cap) (jS {s with owners:=s.owners++[owner]} M.cl 2) (nc {s with owners:=s.owners++[owner]} M.cl 2):=by
  show w1.ownsRow 0 3 1 _ (s.owners++[owner]).length ((s.owners++[owner]).map (Value.int .i64));rw[Yi,Yl,<-HN.o,show s.owners.map (Value.int .i64)=U from HX.o.symm];exact HW.o
 obtain⟨M1,O,dm⟩:=I.o.push (s':={s with owners:=s.owners++[owner]}) (cl':=M.cl) Pa ((Y2 w.heap.size w).alloc (Y0 _) (.cells #[vI owner] 3)) (Y.o▸HG.o) E uE.o ae
  (fun j hj aK => by match j, hj with
   |0,_=>exact⟨rfl,rfl⟩
   |1,_=>exact⟨rfl,rfl⟩
   |2,_=>exact absurd rfl aK
   |3,_=>exact⟨rfl,rfl⟩) rfl rfl I.o.clos I.o.trees
 have H1:=lh O;have HF:=lh dm;have HL:=lh (Ze8 O.heap outer object (by have:=HS.o;show s.H.scopes.length<_;omega));clear O dm ae E;refine HL.o.mono ?_;rintro e w2⟨rfl,ρ',L',g1,f1⟩;obtain⟨a1,a2⟩:=H1.o.heapStep g1 f1;have HR:=lh a1;have HQ:=lh a2;clear a1 a2 g1 f1;go_wp2;go_ret;exact⟨rfl,_,HR.o,HF.o.trans HQ.o⟩
end
end Go.Proofs.YtjikfacdcdiddaaGreatDoor
namespace Go.Proofs.YtjikfacdcdiddaaGreatDoor
open Go Go.RowKit Go.ChangeMaps Go.MapKept
def S8(l:List (Nat×Nat))(k:Nat):Option Nat:=(l.find? (λx=>x.1==k)).map (·.2)
theorem Zih{l:List (Nat×Nat)}{k:Nat}(h:S8 l k=none):∀x∈l,x.1≠k:=by
 unfold S8 at h;rw[Option.map_eq_none_iff,List.find?_eq_none]at h;intro x hx e;exact h x hx (by simp[e])
theorem Z8b{l:List (Nat×Nat)}{k v:Nat}(h:S8 l k=some v):(k,v)∈l:=by
 unfold S8 at h;rw[Option.map_eq_some_iff]at h;obtain⟨x,m,o⟩:=h;have p:=List.mem_of_find?_eq_some m;have g:=List.find?_some m;simp only[beq_iff_eq]at g;obtain⟨a,b⟩:=x;simp only at o g;subst o g;exact p
theorem RCtx.N_eq(C:RCtx)(k:Nat):C.N k=match S8 C.pl k with|some v=>(v:Int)|none=>-3:=by
 unfold RCtx.N S8;cases C.pl.find? (λx=>x.1==k)<;>rfl
def Uc(l:List (Nat×Nat))(k:Nat):Value:=match S8 l k with|some v=>.tuple #[vI v,.bool true]|none=>.tuple #[vI 0,.bool false]
theorem mI.lookup2{w:World}{b k:Nat}{l:List (Nat×Nat)}(h:mI w b l)(hk:rA w k)(hx:∀x∈l,rA w x.1)(hd:(l.map (·.1)).Nodup) :
 (Instr.lookup 46 (.map (some b)) (wV k) true).run Tryz.prog w=.ok (Uc l k) w:=by
 unfold Uc;obtain⟨m,o,hb,he,hst⟩:=h;cases hn:S8 l k with
 | some v =>
   obtain⟨j,hj⟩:=Zgk (hx _ (Z8b hn)) he hx hd (Z8b hn);exact VU
 | none =>
   have hj:=Zgu hk he λx g=>⟨hx x g,Zih hn x g⟩;exact VU
def oj(b:Addr):Value:=.iface 241 (.pointer (some b))
structure RCtx.Ok(C:RCtx):Prop where
 stop:C.w0.cell? ⟨0,0,none⟩=some (oj C.eb)
 stopB:0<C.w0.heap.size
 map:mI C.w0 C.nb C.pl
 cells:∀x∈C.pl,rA C.w0 x.1
 nd:(C.pl.map (·.1)).Nodup
theorem mI.bel{w w':World}{b:Nat}{l:List (Nat×Nat)}(h:mI w b l)(g:Below w.heap.size w w'):mI w' b l:=by
 obtain⟨m,o,hb,he,hst⟩:=h;exact⟨m,o,(g.block b (Y1.1 hb).1).trans hb,he,hst⟩
theorem Z0w(w:World){ah:Array Oper}{g:List Oper}{o:Oper}{a:Act}{Q:Exit->Act->World->Prop}
 (u:o.guard=none)(m x:Operand)(y:o.op=Op.lookup 46 m x true)(b k:Nat)(l:List (Nat×Nat))(r:Value)
 (E:a.eval m=.map (some b))(hx:a.eval x=wV k)(h:mI w b l)(hk:rA w k)(hl:∀x∈l,rA w x.1)(hd:(l.map (·.1)).Nodup)
 (hr:Uc l k=r)
 (F:wpList Tryz.prog ah Q g (a.put o.dst r) w) :
 wpList Tryz.prog ah Q (o::g) a w:=by
 refine wpList_plain u λI G=>?_;have p:=h.lookup2 hk hl hd;rw[hr]at p;unfold Oper.wp;simp[execOp,y,E,hx,p,Result.andThen];exact G _ _ F
section
variable {C:RCtx}{M M':MRep}{w w' wA w1:World}{s s':MSt}
theorem Zi3{B:Nat}{a:ATree}(h:TreeAt w B a):rA w a.b:=⟨_,_,h.blkOf⟩
theorem Z5l(g:C.Ok)(h:MAt C M w s){B:Nat}{a:ATree}(m:TreeAt w B a) :
 Calls Tryz.prog 44 #[vP C.mb,a.ptr] w λe w'=>e=.returned (vI (C.N a.b))∧w'=w:=by
 have hc:=h.cell 7 (.map (some C.nb)) Pl;have E:=h.fz 7;have p:=lh (g.map.bel h.old);have u:=lh (Zi3 m);have HL:=lh (λx hx=>(g.cells x hx).bel h.old);have y:=lh g.nd;rw[C.N_eq];unfold ATree.ptr;cases hn:S8 C.pl a.b with
 | none =>
   have o:=lh hn;clear hn h m g;go_enter Tryz.func44,Tryz.ntmps44
   go_wp2_with (at_lookup;go_must (refine Z0w _ rfl _ _ rfl C.nb a.b C.pl (.tuple #[vI 0,.bool false]) rfl rfl p.o u.o HL.o y.o (by unfold Uc;rw[o.o]) ?_))
   go_ret;exact⟨rfl,rfl⟩
 | some v =>
   have o:=lh hn;clear hn h m g;go_enter Tryz.func44,Tryz.ntmps44
   go_wp2_with (at_lookup;go_must (refine Z0w _ rfl _ _ rfl C.nb a.b C.pl (.tuple #[vI v,.bool true]) rfl rfl p.o u.o HL.o y.o (by unfold Uc;rw[o.o]) ?_))
   go_ret;exact⟨rfl,rfl⟩
end
theorem Tryz.infoPairM:(Tryz.prog.info? 78).map (λi=>(i.zero,i.size,i.bytes))=some (some (.agg #[vI 0,vI 0]),2,16):=by kernel_rfl
theorem Zi9{H:LHeap}(u:H.WF)(n:Int)(name:ByteArray):H.find n name<H.scopes.length:=by
 unfold LHeap.find;have g:∀(f:Nat) (n:Int),H.findF name f n<H.scopes.length:=by
  intro f;induction f with
  |zero=>intro n;show(-1:Int)<_;omega
  | succ f o =>
    intro n;cases hs:H.scope? n with
    |none=>rw[Zee hs];omega
    | some c =>
      rw[Zei hs];split
      .obtain⟨m,rfl,p⟩:=LHeap.scope?_some hs;have:=(List.getElem?_eq_some_iff.1 p).1;omega
      .exact o _
 exact g _ _
section
variable {C:RCtx}{M M':MRep}{w w' wA w1:World}{s s':MSt}
theorem Zd1(E:C.Ok)(h:MAt C M w s)(J:s.H.WF)(af:s.owners.length=s.H.scopes.length){B:Nat}{a:ATree}(ha:TreeAt w B a)(sc:Int)(name:ByteArray)(hn:s.seen.length<1000000000) :
 Calls Tryz.prog 116 #[vP C.mb,a.ptr,vI sc,.string name] w λe w'=>e=.returned (vI (s.H.find sc name))∧
  ∃M',MAt C M' w' (s.look (a.nt C.N) sc name)∧MFr M M' w w':=by
 have F:=Zcl h.heap J sc name;have aA:=Zi9 J sc name;have pd:s.look (a.nt C.N) sc name=if 0<=C.N a.b∧0<=s.H.find sc name then{s with seen:=s.seen++[(C.N a.b,s.owners.getD (s.H.find sc name).toNat 0)]}else s:=by unfold MSt.look;rw[Wz]
 have u:=C.N_eq a.b;obtain⟨N,hN⟩:=zX (C.N a.b)
 rw[<-hN]at u pd;rw[pd];clear pd hN;obtain⟨R,hR⟩:=zX (s.H.find sc name)
 rw[<-hR]at F aA ⊢;have F:=lh F;have ap:∀w1,Below w.heap.size w w1->vC w1 C.mb 7 (.map (some C.nb))∧Hid (mI w1 C.nb C.pl)∧Hid (rA w1 a.b)∧Hid (∀x∈C.pl,rA w1 x.1):=λw1 hB=>
  ⟨(h.below hB).cell 7 _ Pl,(E.map.bel h.old).bel hB,ha.cellsOf.bel hB,λx hx=>((E.cells x hx).bel h.old).bel hB⟩
 have HX:=lh ap;have HD:=lh E.nd;have HM:=lh h;unfold ATree.ptr;cases hnu:S8 C.pl a.b with
 | none =>
   have HR:=lh hnu;have HT:=lh (show Uc C.pl a.b=.tuple #[vI 0,.bool false] by unfold Uc;rw[hnu]);rw[hnu]at u;rw[Y3 (by have:N=-3:=u;omega)];clear hnu h ha E ap J af hR u;go_enter Tryz.func116,Tryz.ntmps116
   go_wp2_with fail
   refine F.o.mono ?_;rintro e w1⟨rfl,hB⟩;obtain⟨c7,O,U,HL⟩:=HX.o w1 hB;have y:=lh hB;clear hB;go_wp2_with (at_lookup;go_must (refine Z0w _ rfl _ _ rfl C.nb a.b C.pl _ rfl rfl O.o U.o HL.o HD.o HT.o ?_))
   go_ret;exact⟨rfl,_,HM.o.below y.o,.of_below y.o⟩
 | some v =>
   have HT:=lh (show Uc C.pl a.b=.tuple #[vI v,.bool true] by unfold Uc;rw[hnu]);by_cases h0:0<=R
   .have I':N=v:=by rw[hnu]at u;exact u
    rw[Y5 ⟨by omega,h0⟩];obtain⟨k,rfl⟩:∃k:Nat,R=k:=⟨R.toNat,by omega⟩
    have hk:k<s.owners.length:=O'
    obtain⟨i0,hi,aD,bo,bT⟩:=info_parts Tryz.infoPairM;obtain⟨m,Ck⟩:∃m,m=s.owners.getD (k:Int).toNat 0:=⟨_,rfl⟩
    rw[<-Ck];have Ae:s.owners[k]?=some m:=by rw[Ck,Int.toNat_natCast,List.getD_eq_getElem?_getD,Y6 hk,Option.getD_some]
    have X:=h.rows 2 Pa;have h8:=h.rcell 2 Pa;obtain⟨vo,lY⟩:=zX (M.row 2)
    rw[<-lY]at X h8;obtain⟨n0,hn0⟩:=zX s.owners.length
    simp only[mK,mZ,jS,nc,rowO,<-hn0]at X h8;rcases Z4 X with⟨_,hz⟩|⟨p,c0,rfl,jH,lu,rl⟩;·omega
    have dk:w.cell? ⟨p,k,none⟩=some (vI m):=Zn X (g:=p) rfl (by rw[Yg,Ae];rfl);have bV:k<n0:=O'
    have hS:=h.rows 1 Pa;have h6:=h.rcell 1 Pa;have Ja:=h.fz 6;obtain⟨I,Y⟩:=zX (M.row 1)
    obtain⟨xs,cI⟩:=zX (nc s M.cl 1)
    obtain⟨m0,Cl⟩:=zX s.seen.length
    rw[<-Y]at hS h6;simp only[mK,mZ,rowO]at hS h6;rw[<-cI,show jS s M.cl 1=m0 from Cl.symm]at hS;rw[<-Cl]at hn;have jo:=h.mbLt;have d9:I.ownBlock≠some C.mb:=λe=>h.rowNe (i:=1) Pa (Y▸e);have jG:I.ownBlock≠some p:=λe=>absurd (h.rdist 1 2 p Pa Pa (Y▸e) (by rw[<-lY];rfl)) Pa;have HS:=lh hS;have tN:=lh d9;have Af:=lh jG;have oN:=lh cI;have ir:=lh Cl;have vG:=lh Y;have Ot:=lh Ck;have Ag:=lh I'
    clear hnu h ha E ap J af hR u X hS Y cI Cl d9 jG Ck Ae lY hn0 I';go_enter Tryz.func116,Tryz.ntmps116
    go_wp2_with fail
    refine F.o.mono ?_;rintro e w1⟨rfl,hB⟩;obtain⟨c7,O,U,HL⟩:=HX.o w1 hB;have d6:vC w1 C.mb 6 I:=(hB.cell jo).trans h6;have d8:vC w1 C.mb 8 (.slice (some ⟨p,0,none⟩) n0 c0):=(hB.cell jo).trans h8;have EX:w1.cell? ⟨p,k,none⟩=some (vI m):=(hB.cell rl).trans dk;have z6:w1.frozen? ⟨C.mb,6,none⟩=false:=(hB.frozen jo).trans Ja;have Z:C.mb<w1.heap.size:=Y7 jo hB.size;have mF:p<w1.heap.size:=Y7 rl hB.size
    have dS:=lh (Z2 HS.o λj hj=>hB.block j (Y9 HS.o j hj).2);have y:=lh hB;clear hB h6 h8 dk Ja;go_wp2_with (at_lookup;go_must (refine Z0w _ rfl _ _ rfl C.nb a.b C.pl _ rfl rfl O.o U.o HL.o HD.o HT.o ?_))
    refine Z8 [0,2,4,6,8,10,12,14,16,18,20,22,24,26,28,31,33] [17,18,19,20] (λW=>vC W C.mb 6 I∧vC W C.mb 8 (.slice (some ⟨p,0,none⟩) n0 c0)∧W.cell? ⟨p,k,none⟩=some (vI m)) ⟨d6,d8,EX⟩ λ_=>?_;refine dW ?_
    iterate 15
     refine dV ?_
    refine Z6 (λK hK=>?_);go_simp
    refine hK _ _ ⟨(Zb Z).trans d6,(Zb Z).trans d8,(Zb mF).trans EX⟩ ?_;clear hK K;refine Z6 (λK hK=>?_);refine step_append_lies _ Po (.tmp 37) (.tmp 47) 27 Po 0 78 i0 _ 2 16 Tryz.underlying27 hi aD bo bT rfl Pa I m0 xs Po ((dS.o.alloc _).drew) ⟨w1.heap.size,0,none⟩ 1 1 [vI v,vI m] Po rfl (Ya (cs:=#[vI v,vI m]) (t:=78) (fr:=(0,0)) (heap_alloc_new w1 _)) Rf Pa Pc O' O' (w1.heap.size+1) Pg ?_
    intro gg cap w2 aM ay ch iq;have cR:∀b o,b<w1.heap.size->I.ownBlock≠some b->w2.cell? ⟨b,o,none⟩=w1.cell? ⟨b,o,none⟩:=λb o ai ax=>(ay.cell_far ⟨b,o,none⟩ Pe (λe=>ax e.symm)).trans (Zb ai);have kL:w2.frozen? ⟨C.mb,6,none⟩=false:=(ay.frozen_far ⟨C.mb,6,none⟩ Pe (λe=>tN.o e.symm)).trans ((RH Z).trans z6);have e6:=(cR _ 6 Z tN.o).trans d6;refine hK _ _ ⟨e6,(cR _ 8 Z tN.o).trans d8,(cR _ k mF Af.o).trans EX⟩ ?_;clear hK K;simp only[Act.put,zA,zB,zC]
    have HG:=lh ay;have HW:=lh aM;have iK:=lh ch;have kM:=lh iq;clear ay aM ch iq cR;refine Z0 ?_;go_wp2;go_ret;refine⟨rfl,?_⟩;have ef:=HM.o.below y.o;have hg:(M.row 1).ownBlock=some gg∨w1.heap.size<=gg:=by
     rw[<-vG.o];rcases iK.o with h|h;·exact .inl h
     .exact .inr O'
    have ae:w2.ownsRow 0 (mK 1) (mZ 1) (.slice (some ⟨gg,0,none⟩) (m0+1) cap) (jS {s with seen:=s.seen++[(N,m)]} M.cl 1) (nc {s with seen:=s.seen++[(N,m)]} M.cl 1):=by
     have hw:=HW.o;rw[oN.o,ir.o]at hw;rw[ir.o,Ag.o];simpa[mK,mZ,jS,nc]using hw
    obtain⟨M2,aQ,aq⟩:=ef.push (s':={s with seen:=s.seen++[(N,m)]}) (cl':=M.cl) Pa (((Y2 w1.heap.size w1).alloc (Y0 _) (.cells #[vI v,vI m] 78)).drew) (vG.o▸HG.o) hg kM.o ae
     (fun j hj aK => by match j, hj with
      |0,_=>exact⟨rfl,rfl⟩
      |1,_=>exact absurd rfl aK
      |2,_=>exact⟨rfl,rfl⟩
      |3,_=>exact⟨rfl,rfl⟩) rfl rfl HM.o.clos ef.trees
    exact⟨M2,aQ,(MFr.of_below y.o).trans aq⟩
   .rw[Y3 (by intro e;exact h0 e.2)];have h1:decide (0<=R)=false:=decide_eq_false h0;clear hnu h ha E ap J af hR u;go_enter Tryz.func116,Tryz.ntmps116
    go_wp2_with fail
    refine F.o.mono ?_;rintro e w1⟨rfl,hB⟩;obtain⟨c7,O,U,HL⟩:=HX.o w1 hB;have y:=lh hB;clear hB;go_wp2_with (at_lookup;go_must (refine Z0w _ rfl _ _ rfl C.nb a.b C.pl _ rfl rfl O.o U.o HL.o HD.o HT.o ?_))
    go_ret;exact⟨rfl,_,HM.o.below y.o,.of_below y.o⟩
end
end Go.Proofs.YtjikfacdcdiddaaGreatDoor
namespace Go.Proofs.YtjikfacdcdiddaaGreatDoor
open Go Go.RowKit
theorem Zmx(m:Addr){α:Type}(enc:α->Value)(g:α->Bool)(Inv:World->Prop)(p:Option Addr)(cap:Nat)(l:List α)(w:World)(hn:l.length<=9223372036854775807)(dG:l.length<=cap)
 (hc:∀i x,l[i]?=some x->∃b off,p=some ⟨b,off,none⟩∧∀w1,Inv w1->w1.cell? ⟨b,off+i,none⟩=some (enc x))
 (hg:∀x∈l,∀w1,Inv w1->Calls Tryz.prog 68 #[enc x,.pointer (some m)] w1 λe w'=>e=.returned (.bool (g x))∧Inv w')(hI:Inv w) :
 Calls Tryz.prog 105 #[.slice p l.length cap,.func (.func 68) #[] #[.pointer (some m)]] w λe w'=>(∃z:Int,e=.returned (vI z)∧decide (z≥0)=l.any g)∧Inv w':=by
 exact Xi
theorem Zv9(m:Addr){α:Type}(enc:α->Value)(g:α->Bool)(Inv:World->Prop)(p:Option Addr)(cap:Nat)(l:List α)(w:World)(hn:l.length<=9223372036854775807)(o:l.length<=cap)
 (hc:∀i x,l[i]?=some x->∃b off,p=some ⟨b,off,none⟩∧∀w1,Inv w1->w1.cell? ⟨b,off+i,none⟩=some (enc x))
 (u:∀x∈l,∀w1,Inv w1->Calls Tryz.prog 68 #[enc x,.pointer (some m)] w1 λe w'=>e=.returned (.bool (g x))∧Inv w')(hI:Inv w) :
 Calls Tryz.prog 67 #[.slice p l.length cap,.func (.func 68) #[] #[.pointer (some m)]] w λe w'=>e=.returned (.bool (l.any g))∧Inv w':=by
 have y:=lh (Zmx m enc g Inv p cap l w hn o hc u hI);clear hn o hc u hI;go_enter Tryz.func67,Tryz.ntmps67
 go_wp2_with fail
 refine y.o.mono ?_;rintro e w1⟨⟨z,rfl,E⟩,F⟩;have G:=lh E;clear E y;go_wp2;go_ret;refine⟨?_,F⟩;rw[<-G.o];rfl
theorem Zne(m:Addr){α:Type}(enc:α->Value)(g:α->Bool)(Inv:World->Prop)(p:Option Addr)(cap:Nat)(l:List α)(w:World)(hn:l.length<=9223372036854775807)(dG:l.length<=cap)
 (hc:∀i x,l[i]?=some x->∃b off,p=some ⟨b,off,none⟩∧∀w1,Inv w1->w1.cell? ⟨b,off+i,none⟩=some (enc x))
 (hg:∀x∈l,∀w1,Inv w1->Calls Tryz.prog 70 #[enc x,.pointer (some m)] w1 λe w'=>e=.returned (.bool (g x))∧Inv w')(hI:Inv w) :
 Calls Tryz.prog 106 #[.slice p l.length cap,.func (.func 70) #[] #[.pointer (some m)]] w λe w'=>(∃z:Int,e=.returned (vI z)∧decide (z≥0)=l.any g)∧Inv w':=by
 exact Aad
theorem Zuh(m:Addr){α:Type}(enc:α->Value)(g:α->Bool)(Inv:World->Prop)(p:Option Addr)(cap:Nat)(l:List α)(w:World)(hn:l.length<=9223372036854775807)(o:l.length<=cap)
 (hc:∀i x,l[i]?=some x->∃b off,p=some ⟨b,off,none⟩∧∀w1,Inv w1->w1.cell? ⟨b,off+i,none⟩=some (enc x))
 (u:∀x∈l,∀w1,Inv w1->Calls Tryz.prog 70 #[enc x,.pointer (some m)] w1 λe w'=>e=.returned (.bool (g x))∧Inv w')(hI:Inv w) :
 Calls Tryz.prog 69 #[.slice p l.length cap,.func (.func 70) #[] #[.pointer (some m)]] w λe w'=>e=.returned (.bool (l.any g))∧Inv w':=by
 have y:=lh (Zne m enc g Inv p cap l w hn o hc u hI);clear hn o hc u hI;go_enter Tryz.func69,Tryz.ntmps69
 go_wp2_with fail
 refine y.o.mono ?_;rintro e w1⟨⟨z,rfl,E⟩,F⟩;have G:=lh E;clear E y;go_wp2;go_ret;refine⟨?_,F⟩;rw[<-G.o];rfl
theorem Zmy(m:Addr){α:Type}(enc:α->Value)(g:α->Bool)(Inv:World->Prop)(p:Option Addr)(cap:Nat)(l:List α)(w:World)(hn:l.length<=9223372036854775807)(dG:l.length<=cap)
 (hc:∀i x,l[i]?=some x->∃b off,p=some ⟨b,off,none⟩∧∀w1,Inv w1->w1.cell? ⟨b,off+i,none⟩=some (enc x))
 (hg:∀x∈l,∀w1,Inv w1->Calls Tryz.prog 109 #[enc x,.pointer (some m)] w1 λe w'=>e=.returned (.bool (g x))∧Inv w')(hI:Inv w) :
 Calls Tryz.prog 106 #[.slice p l.length cap,.func (.func 109) #[] #[.pointer (some m)]] w λe w'=>(∃z:Int,e=.returned (vI z)∧decide (z≥0)=l.any g)∧Inv w':=by
 exact Aad
theorem Zux(m:Addr){α:Type}(enc:α->Value)(g:α->Bool)(Inv:World->Prop)(p:Option Addr)(cap:Nat)(l:List α)(w:World)(hn:l.length<=9223372036854775807)(o:l.length<=cap)
 (hc:∀i x,l[i]?=some x->∃b off,p=some ⟨b,off,none⟩∧∀w1,Inv w1->w1.cell? ⟨b,off+i,none⟩=some (enc x))
 (u:∀x∈l,∀w1,Inv w1->Calls Tryz.prog 109 #[enc x,.pointer (some m)] w1 λe w'=>e=.returned (.bool (g x))∧Inv w')(hI:Inv w) :
 Calls Tryz.prog 69 #[.slice p l.length cap,.func (.func 109) #[] #[.pointer (some m)]] w λe w'=>e=.returned (.bool (l.any g))∧Inv w':=by
 have y:=lh (Zmy m enc g Inv p cap l w hn o hc u hI);clear hn o hc u hI;go_enter Tryz.func69,Tryz.ntmps69
 go_wp2_with fail
 refine y.o.mono ?_;rintro e w1⟨⟨z,rfl,E⟩,F⟩;have G:=lh E;clear E y;go_wp2;go_ret;refine⟨?_,F⟩;rw[<-G.o];rfl
theorem Zn1{α:Type}(enc:α->Value)(g:α->Bool)(Inv:World->Prop)(p:Option Addr)(cap:Nat)(l:List α)(w:World)(hn:l.length<=9223372036854775807)(dG:l.length<=cap)
 (hc:∀i x,l[i]?=some x->∃b off,p=some ⟨b,off,none⟩∧∀w1,Inv w1->w1.cell? ⟨b,off+i,none⟩=some (enc x))
 (hg:∀x∈l,∀w1,Inv w1->Calls Tryz.prog 111 #[enc x] w1 λe w'=>e=.returned (.bool (g x))∧Inv w')(hI:Inv w) :
 Calls Tryz.prog 105 #[.slice p l.length cap,.func (.func 111) #[] #[]] w λe w'=>(∃z:Int,e=.returned (vI z)∧decide (z≥0)=l.any g)∧Inv w':=by
 exact Xi
theorem Zsl{α:Type}(enc:α->Value)(g:α->Bool)(Inv:World->Prop)(p:Option Addr)(cap:Nat)(l:List α)(w:World)(hn:l.length<=9223372036854775807)(m:l.length<=cap)
 (hc:∀i x,l[i]?=some x->∃b off,p=some ⟨b,off,none⟩∧∀w1,Inv w1->w1.cell? ⟨b,off+i,none⟩=some (enc x))
 (o:∀x∈l,∀w1,Inv w1->Calls Tryz.prog 111 #[enc x] w1 λe w'=>e=.returned (.bool (g x))∧Inv w')(hI:Inv w) :
 Calls Tryz.prog 67 #[.slice p l.length cap,.func (.func 111) #[] #[]] w λe w'=>e=.returned (.bool (l.any g))∧Inv w':=by
 have u:=lh (Zn1  enc g Inv p cap l w hn m hc o hI);clear hn m hc o hI;go_enter Tryz.func67,Tryz.ntmps67
 go_wp2_with fail
 refine u.o.mono ?_;rintro e w1⟨⟨z,rfl,y⟩,E⟩;have F:=lh y;clear y u;go_wp2;go_ret;refine⟨?_,E⟩;rw[<-F.o];rfl
theorem Zpa{s:ByteArray}{l:ByteArray}{t:List UInt8}(hl:l.toList=t)(h:s≠l):(s.toList==t)=false:=by
 have:(s.toList==l.toList)=false:=by rw[RV];simp[Zg,h]
 rwa[hl]at this
theorem Zkb:Vn.toList=[101,118,97,108]:=by kernel_rfl
theorem Zax:We.toList=[97,114,103,117,109,101,110,116,115]:=by kernel_rfl
theorem Z6n(w:World)(st ins:Bool)(s:ByteArray) :
 Calls Tryz.prog 107 #[.agg #[.bool st,.bool ins],.string s] w λe w'=>e=.returned (.bool (Ka st s))∧Below w.heap.size w w':=by
 have HB:=lh ((Y2 w.heap.size w).alloc (Y0 _) (.cells #[.bool st,.bool ins] 91));unfold Ka;cases st;·exact Un
 .by_cases g:s=Vn
  .subst g;rw[show Zg Vn Vn=true by simp[Zg]];unfold Vn;exact Un
  .have o:=Zpa Zkb g;rw[show Zg s Vn=false by simp[Zg,g]];clear g;by_cases m:s=We
   .subst m;rw[show Zg We We=true by simp[Zg]];unfold We;clear o;exact Un
   .have p:=Zpa Zax m;rw[show Zg s We=false by simp[Zg,m]];clear m;exact Un
theorem Zla(w:World)(B:Nat)(a:ATree)(m:TreeAt w B a) :
 Calls Tryz.prog 112 #[a.ptr] w λe w'=>e=.returned (.bool (Sb a))∧w'=w:=by
 have c0:=m.c0;unfold Sb ATree.ptr;obtain⟨g,o⟩:=zX a.kind
 rw[<-o]at c0 ⊢;clear o m;rcases(by omega:g=3∨g=4∨g=5∨(g≠3∧g≠4∧g≠5))with h3|h3|h3|⟨h3,h4,h5⟩;·exact Zry
 .exact Zry
 .exact Zry
 .have p:(g==3)=false:=by simpa using h3
  have u:(g==4)=false:=QJ
  have y:(g==5)=false:=Rn
  rw[p,u,y];have E:(g !=3)=true:=Ro
  have F:(g !=4)=true:=QJ
  have I:(g !=5)=true:=Rn
  clear h3 h4 h5 p u y;go_enter Tryz.func112,Tryz.ntmps112
  go_wp2;go_ret;exact⟨rfl,rfl⟩
theorem Zjh(w:World)(B:Nat)(a:ATree)(m:TreeAt w B a) :
 Calls Tryz.prog 111 #[a.ptr] w λe w'=>e=.returned (.bool (!Sb a))∧w'=w:=by
 have g:=lh (Zla w B a m);unfold ATree.ptr at g ⊢;obtain⟨p,o⟩:=zX (Sb a)
 rw[<-o]at g ⊢;clear m o;go_enter Tryz.func111,Tryz.ntmps111
 go_wp2_with fail
 refine g.o.mono ?_;rintro e w'⟨rfl,rfl⟩;go_wp2;go_ret;exact⟨rfl,rfl⟩
theorem Zll(w:World)(B c:Nat)(a:ATree)(s:ByteArray)(g:TreeAt w B a)(hc:w.cell? ⟨c,0,none⟩=some a.ptr) :
 Calls Tryz.prog 109 #[.string s,vP c] w λe w'=>e=.returned (.bool (Zg s a.text))∧w'=w:=by
 have c1:=g.c1;unfold ATree.ptr at hc;rw[<-RV];obtain⟨tx,m⟩:=zX a.text
 rw[<-m]at c1 ⊢;clear g m;go_enter Tryz.func109,Tryz.ntmps109
 go_wp2;go_ret;exact⟨rfl,rfl⟩
theorem Zi4(w:World)(B c:Nat)(x k:ATree)(hx:TreeAt w B x)(hk:TreeAt w B k)(hc:w.cell? ⟨c,0,none⟩=some k.ptr) :
 Calls Tryz.prog 68 #[x.ptr,vP c] w λe w'=>e=.returned (.bool (Zg x.text k.text))∧Below w.heap.size w w':=by
 have g:=hx.c1;have m:=hk.c1;unfold ATree.ptr at hc ⊢;rw[<-RV];obtain⟨tx,p⟩:=zX x.text
 obtain⟨y,u⟩:=zX k.text
 rw[<-p]at g ⊢;rw[<-u]at m ⊢;clear hx hk p u;go_enter Tryz.func68,Tryz.ntmps68
 go_wp2_with fail
 refine Z8 [0,2,4,6,8,10,12,14] [8,9] (λW=>vC W x.b 1 (.string tx)∧vC W c 0 (vP k.b)∧vC W k.b 1 (.string y)) ⟨g,hc,m⟩ λ_=>?_;refine dW ?_
 iterate 8
  refine dV ?_
 refine Z0 ?_;go_wp2;go_ret;exact⟨rfl,(Y2 _ _).drew⟩
theorem Zis(w:World)(B c:Nat)(v:Value)(l:List ByteArray)(s:ByteArray)(ht:Zy w B v l)(hc:vC w c 0 v) :
 Calls Tryz.prog 70 #[.string s,vP c] w λe w'=>e=.returned (.bool (Lib.containsS l s))∧w'=w:=by
 have g:=lh (Vt ht s);clear ht;go_enter Tryz.func70,Tryz.ntmps70
 go_wp2_with fail
 refine g.o.mono ?_;rintro e w'⟨rfl,rfl⟩;go_wp2;go_ret;exact⟨rfl,rfl⟩
theorem Zic{T:List ByteArray}{k:Nat}{s:ByteArray}(h:T[k]?=some s):VJ (T.take k) (T.drop k)=(Lib.containsS (T.take k) s||VJ (T.take (k+1)) (T.drop (k+1))):=by
 obtain⟨hk,he⟩:=List.getElem?_eq_some_iff.1 h;rw[List.drop_eq_getElem_cons hk,List.take_succ_eq_append_getElem hk,he];rfl
theorem Zir{L V T:List ByteArray}{b:Bool}{k:Nat}{s:ByteArray}(h:T[k]?=some s):VL L V b (T.take k) (T.drop k)=(Lib.containsS L s||(!b&&((T.take k).any (λo=>Zg o s)||Lib.containsS V s))||VL L V b (T.take (k+1)) (T.drop (k+1))):=by
 obtain⟨hk,he⟩:=List.getElem?_eq_some_iff.1 h;rw[List.drop_eq_getElem_cons hk,List.take_succ_eq_append_getElem hk,he];rfl
structure EsInv(w0:World)(c:Nat)(l:List ByteArray)(w:World):Prop where
 cell:∃v,w.heap[c]?=some (.cells #[v] 26 (0,0))∧Zy w (c+1) v l
 bel:Below w0.heap.size w0 w
theorem EsInv.on{w0 w w1:World}{c:Nat}{l:List ByteArray}(h:EsInv w0 c l w)(g:Below w.heap.size w w1):EsInv w0 c l w1:=by
 obtain⟨v,m,o⟩:=h.cell;exact⟨⟨v,(g.block c (Y1.1 m).1).trans m,o.bel g⟩,h.bel.trans (g.mono h.bel.size)⟩
theorem EsInv.push{w0 w w1 w2:World}{c:Nat}{l:List ByteArray}{v v2:Value}{s:ByteArray}(u:w.heap[c]?=some (.cells #[v] 26 (0,0)))(ht:Zy w (c+1) v l)(m:Below w0.heap.size w0 w)(hc:w0.heap.size<=c)
 (g:Below w.heap.size w w1)(y:w1.grownBy w2 v.ownBlock)(E:w2.ownsRow (c+1) 9 1 v2 (l.length+1) (l.map Value.string++[.string s])) :
 EsInv w0 c (l++[s]) (w2.setCell ⟨c,0,none⟩ v2)∧∀k,k<w.heap.size->k≠c->v.ownBlock≠some k->(w2.setCell ⟨c,0,none⟩ v2).heap[k]?=w.heap[k]?:=by
 have F:=(Y1.1 u).1;have G:v.ownBlock≠some c:=λe=>by have:=(Y9 ht c e).1;omega
 have step:∀k,k<w.heap.size->v.ownBlock≠some k->w2.heap[k]?=w.heap[k]?:=λk hk I=>(y.block k (Y7 hk g.size) (λe=>I e.symm)).trans (g.block k hk);refine⟨⟨⟨v2,Zh (o:=0) v2 ((step c F G).trans u),?_⟩,?_⟩,λk hk J O=>(Y8 _ _ _ _ J).trans (step k hk O)⟩
 .refine Z2 (Z8m E) λk hk=>Y8 _ _ _ _ ?_;have:=(Y9 E k hk).1;simp only;omega
 .refine Below.setCell (Below.grown (m.trans (g.mono m.size)) y (Y4 m.size g.size) ?_) (p:=⟨c,0,none⟩) hc _;exact λk hk=>by have:=(Y9 ht k hk).1;omega
theorem jm.off{w w':World}{B m c:Nat}{v g o:Value}{L:List ATree}{l:List ByteArray}(h:jm w B v L)(p:w.heap[c]?=some (.cells #[o] 26 (0,0)))(ht:Zy w m g l)
 (hf:∀k,k<w.heap.size->k≠c->g.ownBlock≠some k->w'.heap[k]?=w.heap[k]?):jm w' B v L:=by
 refine Z2 h λk hk=>hf k (Y9 h k hk).2 ?_ ?_
 .intro e;obtain⟨c1,f1,h1⟩:=Lib.ownsRow_kind h k hk;rw[e,p]at h1;simp only[Option.some.injEq,Obj.cells.injEq]at h1;exact absurd h1.2.1 Pa
 .intro e;exact Zvd
theorem jm.slice{w:World}{B:Nat}{v:Value}{l:List ATree}(h:jm w B v l):∃p m,v=.slice p l.length m∧l.length<=m∧m<=maxLen∧∀(i:Nat) x,l[i]?=some x->∃g,p=some ⟨g,0,none⟩:=by
 exact YR
theorem Zy.form2{w:World}{B:Nat}{v:Value}{l:List ByteArray}(h:Zy w B v l):∃p m,v=.slice p l.length m∧l.length<=m∧m<=maxLen∧∀(i:Nat) x,l[i]?=some x->∃g,p=some ⟨g,0,none⟩:=by
 exact YR
theorem Za5(w:World)(B:Nat)(a:ATree)(st ins body:Bool)(hT:TreeAt w B a)(hm:a.many<274877906944) :
 Calls Tryz.prog 30 #[.agg #[.bool st,.bool ins],a.ptr,.bool body] w λe w'=>e=.returned (vI (if Lx a body then 9 else 0))∧Below w.heap.size w w':=by
 obtain⟨i0,hi,aD,bo,bT⟩:=info_parts Tryz.infoStr;refine Dz ?_;intro iV;have ba:=YX a;have Y:=lh hT;have HL:=lh (λW (h:TreeAt W B a)=>Va W B a h O');have Cm:=lh (λW (h:TreeAt W B a)=>Vw W B a h O');have HV:=lh (λW (h:TreeAt W B a)=>Xv W B a h O');refine VX ?_;intro nf dG tf eV qR jv;have iZ:Lx a body=(VJ [] (L0 a)||VL (L0 a) (yw a) body [] (Xu a)||(yw a).any (λs=>Lib.containsS (L0 a) s)):=rfl;obtain⟨P,hP⟩:=zX (a.kids.filter wH)
 obtain⟨Q,hQ⟩:=zX (a.kids.filter wW)
 obtain⟨V,EY⟩:=zX (yw a)
 have Ah:L0 a=P.map ATree.text:=by rw[hP];rfl
 have Jb:Xu a=Q.map ATree.text:=by rw[hQ];rfl
 rw[Ah,Jb,<-EY]at iZ;rw[<-hP]at dG jv;rw[<-hQ]at nf qR;simp only[<-hP]at HL;simp only[<-hQ]at Cm;simp only[<-EY]at HV;obtain⟨T,qd⟩:=zX (P.map ATree.text)
 rw[<-qd]at iZ;obtain⟨R1,dF⟩:=zX (VJ [] T)
 obtain⟨R2,am⟩:=zX (VL T V body [] (Q.map ATree.text))
 rw[<-dF,<-am]at iZ;obtain⟨code,aw⟩:∃c:Int,c=if Lx a body then 9 else 0:=⟨_,rfl⟩
 rw[<-aw];rw[iZ]at aw;have Z:=lh aw;have gA:=lh dF;have bD:=lh am;have iK:=lh qd;have fA:Below w.heap.size w (w.alloc (.cells #[.bool st,.bool ins] 91)):=(Y2 _ _).alloc (Y0 _) _;have gW:EsInv w (w.heap.size+1) [] ((w.alloc (.cells #[.bool st,.bool ins] 91)).alloc (.cells #[.slice none 0 0] 26)):=
  ⟨⟨_,by simpa using(Go.MapKept.heap_alloc (w.alloc (.cells #[.bool st,.bool ins] 91)) (.cells #[.slice none 0 0] 26)).1,Zy.nil _ _⟩,fA.alloc fA.size _⟩
 have xL:=lh gW;have Ai:a.kids.length<274877906944:=O'
 clear hT ba tf eV iZ aw hP hQ EY Ah Jb qd dF am fA gW;unfold ATree.ptr at HL Cm HV ⊢;go_enter Tryz.func30,Tryz.ntmps30
 go_wp2_with fail
 refine(HL.o _ (Y.o.bel xL.o.bel)).mono ?_;rintro e w2⟨v2,rfl,cG,ax⟩;have cO:=xL.o.on ax;have cD:=lh cO;obtain⟨zn,DP⟩:=zX (((w.alloc (.cells #[.bool st,.bool ins] 91)).alloc (.cells #[.slice none 0 0] 26)).heap.size)
 rw[<-DP]at cG;obtain⟨p2,jP,rfl,dN,fZ,dn⟩:=cG.slice;have N2:=lh cG;have gZ:=lh dn;refine Ht ?_;intro q cT ng;rw[<-cT]at dN N2 dG ⊢;have d7:=lh cT;clear cO cG ax DP cT xL dn;go_wp2_with fail
 go_loopw [19] (λi wr=>∃(k:Nat),k<=q∧i=(vI k)∧Hid (EsInv w (w.heap.size+1) (T.take k) wr)∧Hid (jm wr zn (.slice p2 q jP) P)∧Hid (VJ (T.take k) (T.drop k)=R1)) (λi _=>q-(intOf i).toNat)
 case atStart=>exact⟨0,Yh _,rfl,cD,N2,lh gA.o.symm⟩
 case round=>
  obtain⟨k,hk,rfl,HS,O,HR⟩:=hrel;clear cD N2;by_cases bV:k<q
  .obtain⟨x,hx⟩:∃x,P[k]? =some x:=⟨_,Y6 Pr⟩
   obtain⟨g0,hp⟩:=gZ.o k x hx;subst hp;have cx:=O.o.cell rfl hx;have U:=(Y.o.bel HS.o.bel).kid (jv.o x (Yd hx));have c1:=U.c1;refine Zqv ?_;intro v bj bg sv;have Jc:wr.frozen? ⟨w.heap.size+1,0,none⟩=false:=by simp[World.frozen?,bj]
   have mO:=(Y1.1 bj).1;have jx:=U.lt;have rX:T[k]?=some x.text:=by rw[iK.o,Yg,hx];rfl
   have E:=Zic rX;rw[HR.o]at E;have cW:(T.take k).length=k:=by rw[List.length_take,iK.o,Ym,<-d7.o];omega
   have dT:T.take k++[x.text]=T.take (k+1):=by
    exact Zsp
   obtain⟨pv,nv,cv,rfl⟩:=bg.slice;obtain⟨tx,oy⟩:=zX x.text
   rw[<-oy]at c1 E dT;obtain⟨l,hl⟩:=zX (T.take k)
   rw[<-hl]at bg E cW dT;have HC:=lh (Vt (w:=wr.drew) (Z2 bg λk _=>rfl) tx);obtain⟨cb,me⟩:=zX (Lib.containsS l tx)
   rw[<-me]at HC E;have TX:=lh bg;have tP:=lh bj;have F:=lh E;have xM:=lh dT;have Cn:=lh HS.o.bel;have LN:l.length<1099511627776:=O'
   clear U bj bg rX E dT oy hl me hx;go_wp2_with fail
   refine Z8 [0,2,4,6,8] [5] (λW=>vC W (w.heap.size+1) 0 (.slice pv nv cv)∧vC W x.b 1 (.string tx)) ⟨sv,c1⟩ λ_=>?_;refine dW ?_
   iterate 5
    refine dV ?_
   refine Z0 ?_;go_wp2_with fail
   refine HC.o.mono ?_;rintro e w'⟨rfl,X⟩;rw[X];clear X w' HC;cases cb
   .have Jd:wr.drew.cell? ⟨w.heap.size+1,0,none⟩=some (.slice pv nv cv):=sv;have c1':wr.drew.cell? ⟨x.b,1,none⟩=some (.string tx):=c1;have LO:wr.drew.frozen? ⟨w.heap.size+1,0,none⟩=false:=Jc;go_wp2_with fail
    refine Z8 [0,2,4,6,8,11] [6,7] (λW=>vC W (w.heap.size+1) 0 (.slice pv nv cv)∧vC W x.b 1 (.string tx)) ⟨Jd,c1'⟩ λ_=>?_;refine dW ?_
    iterate 5
     refine dV ?_
    refine Z6 (λK hK=>?_);go_simp
    refine hK _ _ ⟨(Zb PY).trans Jd,(Zb (by show x.b<_;exact jx)).trans c1'⟩ ?_;clear hK K;refine Z0 ?_;have Je:(wr.alloc (.cells #[.string tx] 9)).drew.drew.frozen? ⟨w.heap.size+1,0,none⟩=false:=(RH PY).trans Jc;have uK:=TX;unfold Zy at uK;have Jf:(wr.alloc (.cells #[.string tx] 9)).drew.drew.ownsRow (w.heap.size+1+1) 9 1 (.slice pv nv cv) l.length (l.map Value.string):=Z2 (uK.o.alloc _) λk _=>rfl;have EZ:=lh Jf;clear Jf
    refine wpList_append_lies _ rfl (.tmp 29) (.tmp 34) 26 rfl (w.heap.size+1+1) 9 i0 (.string ByteArray.empty) 1 16 Tryz.underlying26 hi aD bo bT rfl Pa (.slice pv nv cv) l.length (l.map Value.string) rfl EZ.o ⟨wr.heap.size,0,none⟩ 1 1 [.string tx] rfl rfl (λj u hu=>cell_one_new wr _ _ j u hu) Pj Pa Pc O' Pe (wr.heap.size+1) Pg ?_;intro g cap w3 aM ay ch fO;have HG:=lh ay;have HW:=lh aM
    have aK:(Value.slice pv nv cv).ownBlock≠some (w.heap.size+1):=λe=>by have:=(Y9 TX.o _ e).1;omega
    have Ou:w3.frozen? ⟨w.heap.size+1,0,none⟩=false:=(ay.frozen_far ⟨w.heap.size+1,0,none⟩ Pe (λe=>aK e.symm)).trans Je;have Ov:vC w3 (w.heap.size+1) 0 (.slice pv nv cv):=(ay.cell_far ⟨w.heap.size+1,0,none⟩ Pe (λe=>aK e.symm)).trans ((Zb (w:=wr) PY).trans sv);clear ay aM ch fO aK Je;simp only[Act.put,zA,zB,zC];go_wp2
    have qe:=EsInv.push tP.o TX.o Cn.o O' (((Y2 wr.heap.size wr).alloc (Y0 _) (.cells #[.string tx] 9)).drew.drew) HG.o HW.o;rw[xM.o,cW]at qe;have tQ:=lh qe;clear qe;go_roundw
    case rel=>
     refine⟨k+1,by omega,by go_num,lh tQ.o.1,lh (O.o.off tP.o TX.o tQ.o.2),lh ?_⟩;have p:=F.o;simp only[Bool.false_or]at p;exact p.symm
    case measure=>simp[intOf];omega
   .go_wp2;go_ret;refine⟨?_,Cn.o.drew⟩;have p:=F.o;simp only[Bool.true_or]at p;rw[Z.o,p];rfl
  ·have aR : k = q := by omega
   subst aR;have LP:T.length=k:=by rw[iK.o,Ym,<-d7.o]
   have aG:EsInv w (w.heap.size+1) T wr:=by
    have:=HS.o;rwa[Ye O']at this
   have bA:R1=false:=by
    have:=HR.o;rw[Ye O',List.drop_of_length_le O']at this;rw[<-this];rfl
   subst bA;have dS:=lh aG;clear aG HS O HR gA LP;go_wp2_with fail
   refine(HV.o _ (Y.o.bel dS.o.bel)).mono ?_;rintro e w4⟨vv,rfl,tR,eE,dA⟩;obtain⟨pv,Co,rfl,Cp,E0,iL⟩:=tR.form2;have jb:=dS.o.on eE;have np:=lh jb;have E1:=lh tR;obtain⟨zv,ff⟩:=zX wr.heap.size
   rw[<-ff]at E1;clear tR eE jb dS HV ff;go_wp2_with fail
   refine(Cm.o _ (Y.o.bel np.o.bel)).mono ?_;rintro e w5⟨v5,rfl,gP,gu⟩;obtain⟨p5,qf,rfl,jp,mP,fQ⟩:=gP.slice;have lq:=lh (np.o.on gu);have vJ:=lh (E1.o.bel gu);have N5:=lh gP;have jq:=lh fQ;obtain⟨zf,Aj⟩:=zX w4.heap.size
   rw[<-Aj]at N5;obtain⟨m,fq⟩:=zX Q.length
   have D3:m<=9223372036854775807:=by unfold maxLen at mP;omega
   rw[<-fq]at jp N5 nf ⊢;have bZ:=lh fq;have pq:=lh iL;obtain⟨nV,E4⟩:=zX V.length
   rw[<-E4]at Cp vJ dA ⊢;have Ag:=lh E4;clear gP gu fQ Aj fq iL np E1 E4;go_wp2_with fail
   go_loopw [42] (λi wr=>∃(k:Nat),k<=m∧i=(vI k)∧Hid (EsInv w (w.heap.size+1) T wr)∧Hid (Zy wr zv (.slice pv nV Co) V)∧Hid (jm wr zf (.slice p5 m qf) Q)∧Hid (VL T V body ((Q.map ATree.text).take k) ((Q.map ATree.text).drop k)=R2)) (λi _=>m-(intOf i).toNat)
   case atStart=>exact⟨0,Yh _,rfl,lq,vJ,N5,lh bD.o.symm⟩
   case round=>
    obtain⟨k,hk,rfl,HS,TV,O,HR⟩:=hrel;clear lq vJ N5;by_cases bV:k<m
    .obtain⟨x,hx⟩:∃x,Q[k]? =some x:=⟨_,Y6 Q7⟩
     obtain⟨g0,hp⟩:=jq.o k x hx;subst hp;have cx:=O.o.cell rfl hx;have U:=(Y.o.bel HS.o.bel).kid (qR.o x (Yd hx));have c1:=U.c1;refine Zqv ?_;intro v bj bg sv;have mO:=(Y1.1 bj).1;have jx:=U.lt;have rX:(Q.map ATree.text)[k]?=some x.text:=Rh
     have E:=Zir (L:=T) (V:=V) (b:=body) rX;rw[HR.o]at E;obtain⟨ps,ns,cs,rfl⟩:=bg.slice;obtain⟨tx,oy⟩:=zX x.text
     rw[<-oy]at c1 E;have eI:Below wr.heap.size wr (wr.alloc (.cells #[vP x.b] 22)):=(Y2 _ _).alloc (Y0 _) _;have HC:=lh (Vt (w:=(wr.alloc (.cells #[vP x.b] 22)).drew) (bg.bel eI.drew) tx);obtain⟨cb,me⟩:=zX (Lib.containsS T tx)
     rw[<-me]at HC E;have qg:((Q.map ATree.text).take k).any (λo=>Zg o tx)=(Q.take k).any (λo=>Zg o.text tx):=by
      rw[<-List.map_take,List.any_map];rfl
     rw[qg]at E;have F:=lh E;have TX:=lh bg;have tS:=lh eI;have eY:=lh U;have E5:=lh oy;have HX:=lh hx;have Jg:(wr.alloc (.cells #[vP x.b] 22)).cell? ⟨w.heap.size+1,0,none⟩=some (.slice ps ns cs):=(Zb PY).trans sv;have Jh:(wr.alloc (.cells #[vP x.b] 22)).cell? ⟨x.b,1,none⟩=some (.string tx):=(Zb (by show x.b<_;exact jx)).trans c1
     have E6:(wr.alloc (.cells #[vP x.b] 22)).cell? ⟨wr.heap.size,0,none⟩=some (vP x.b):=Pg
     clear U bj bg rX E oy me hx qg eI;go_wp2_with fail
     refine Z8 [0,2,4,6,8] [5] (λW=>vC W (w.heap.size+1) 0 (.slice ps ns cs)∧vC W wr.heap.size 0 (vP x.b)∧vC W x.b 1 (.string tx)) ⟨Jg,E6,Jh⟩ λ_=>?_;refine dW ?_
     iterate 5
      refine dV ?_
     refine Z0 ?_;go_wp2_with fail
     refine HC.o.mono ?_;rintro e w'⟨rfl,X⟩;rw[X];clear X w' HC;cases cb
     .have ml:=lh (Y.o.bel ((HS.o.on tS.o.drew).bel));go_wp2_with fail
      refine(Cm.o _ ml.o).mono ?_;rintro e I⟨v6,rfl,Cq,la⟩;obtain⟨p6,E7,rfl,E8,E9,Ak⟩:=Cq.slice;obtain⟨g6,rfl⟩:=Ak k x HX.o;rw[<-bZ.o]at E8 ⊢;have jr:Below wr.heap.size wr I:=tS.o.drew.trans (la.mono tS.o.drew.size);have py:=lh (HS.o.on jr);have Ji:=lh (TV.o.bel jr);have Jj:=lh (O.o.bel jr);have nY:=lh jr;have tT:vC I x.b 1 (.string tx):=(Yb (jr.block x.b jx)).trans c1
      have E':vC I wr.heap.size 0 (vP x.b):=(Yb (la.block wr.heap.size (by show wr.heap.size<(wr.alloc _).heap.size;simp))).trans E6;have eV:(Q.take k).length=k:=by rw[List.length_take,<-bZ.o];omega
      have Fa:=(Y9 Cq g6 rfl).2;have xE:TreeAt I B x:=eY.o.bel jr;have sD:wr.heap.size<I.heap.size:=by
       have:=la.size;have h2:(wr.alloc (.cells #[vP x.b] 22)).drew.heap.size=wr.heap.size+1:=Pg
       omega
      have kU:=Zv9 ⟨wr.heap.size,0,none⟩ ATree.ptr (λo=>Zg o.text tx) (Below I.heap.size I) (some ⟨g6,0,none⟩) E7 (Q.take k) I O' O'
       (fun i y hy => ⟨g6, 0, rfl, fun w1 h => by
        rw[Nat.zero_add];have hq:Q[i]?=some y:=by
         rw[List.getElem?_take]at hy;split at hy;·exact hy
         .cases hy
        exact(Yb (h.block g6 Fa)).trans (Cq.cell rfl hq)⟩)
       (fun y hy w1 h => by
        have LQ:y∈Q:=List.mem_of_mem_take hy;have LR:TreeAt w1 B y:=((Y.o.bel py.o.bel).kid (qR.o y LQ)).bel h;rw[E5.o];exact(Zi4 w1 B wr.heap.size y x LR (xE.bel h) ((Yb (h.block wr.heap.size sD)).trans E')).mono λe w2 ⟨p,h2⟩=>⟨p,h.trans (h2.mono h.size)⟩)
       (Y2 _ _)
      rw[eV]at kU;have nG:=lh kU;obtain⟨ag,Al⟩:=zX ((Q.take k).any (λo=>Zg o.text tx))
      rw[<-Al]at nG F;have Cr:k<=E7:=O'
      have LS:(k:Int)<=(E7:Int):=O'
      have Jk:(k:Int)<=(m:Int):=O'
      unfold maxLen at E9;clear Cq la Ak kU Al eV xE jr;go_wp2_with fail
      refine nG.o.mono ?_;rintro e w7⟨rfl,J⟩;have lp:=lh (py.o.on J);have Fb:=lh (Ji.o.bel J);have Jl:=lh (Jj.o.bel J);have Fc:x.b<I.heap.size:=Y7 jx nY.o.size;have Ow:vC w7 x.b 1 (.string tx):=(Yb (J.block x.b Fc)).trans tT;have Ox:vC w7 wr.heap.size 0 (vP x.b):=(Yb (J.block wr.heap.size sD)).trans E';clear J nG py Ji Jj HS TV O tT E' c1 E6 Jh Jg sv;cases body
      .cases ag
       .have mj:=lh (Vt Fb.o tx);obtain⟨LU,iT⟩:=zX (Lib.containsS V tx)
        rw[<-iT]at mj F;clear iT;go_wp2_with fail
        refine mj.o.mono ?_;rintro e w'⟨rfl,X⟩;rw[X];clear X w' mj;cases LU
        .go_wp2;go_roundw
         case rel=>
          have p:=F.o;simp only[Bool.not_false,Bool.true_and,Bool.or_self,Bool.false_or]at p;exact⟨k+1,by omega,by go_num,lp,Fb,Jl,lh p.symm⟩
         case measure=>simp[intOf];omega
        .go_wp2;go_ret;refine⟨?_,lp.o.bel⟩;have p:=F.o;simp only[Bool.not_false,Bool.true_and,Bool.or_true,Bool.true_or]at p;rw[Z.o,p];rfl
       .go_wp2;go_ret;refine⟨?_,lp.o.bel⟩;have p:=F.o;simp only[Bool.not_false,Bool.true_and,Bool.or_true,Bool.true_or]at p;rw[Z.o,p];rfl
      .go_wp2;go_roundw
       case rel=>
        have p:=F.o;simp only[Bool.not_true,Bool.false_and,Bool.or_self,Bool.false_or]at p;exact⟨k+1,by omega,by go_num,lp,Fb,Jl,lh p.symm⟩
       case measure=>simp[intOf];omega
     .go_wp2;go_ret;refine⟨?_,(HS.o.on tS.o.drew).bel⟩;have p:=F.o;simp only[Bool.true_or]at p;rw[Z.o,p];rfl
    .have aR:k=m:=by omega
     subst aR;have hr2:R2=false:=by
      have:=HR.o;have hl:(Q.map ATree.text).length=k:=by rw[Ym,<-bZ.o]
      rw[Ye O',List.drop_of_length_le O']at this;rw[<-this];rfl
     subst hr2;refine Zqv ?_;intro v bj bg sv;have mO:=(Y1.1 bj).1;have Jm:∀g,pv=some ⟨g,0,none⟩->g<wr.heap.size:=λg h=>(Y9 TV.o g (by rw[h];rfl)).2
     have kU:=Zuh ⟨w.heap.size+1,0,none⟩ Value.string (λs=>Lib.containsS T s) (Below wr.heap.size wr) pv Co V wr (by unfold maxLen at E0;rw[<-Ag.o];omega) (by rw[<-Ag.o];exact Cp)
      (fun i y hy => by
       obtain⟨g,hg⟩:=pq.o i y hy;refine⟨g,0,hg,λw1 h=>?_⟩;rw[Nat.zero_add];exact(Yb (h.block g (Jm g hg))).trans (TV.o.cells (by rw[hg];rfl) hy))
      (λy hy w1 h=>(Zis w1 (w.heap.size+1+1) (w.heap.size+1) v T y (bg.bel h) ((Yb (h.block _ mO)).trans sv)).mono λe w2 ⟨p,h2⟩=>⟨p,by rw[h2];exact h⟩)
      (Y2 _ _)
     rw[<-Ag.o]at kU;have nG:=lh kU;obtain⟨r3,dp⟩:=zX (V.any (λs=>Lib.containsS T s))
     rw[<-dp]at nG Z;have Cn:=lh HS.o.bel;clear bj bg kU dp Jm HS TV O HR bD;go_wp2_with fail
     refine nG.o.mono ?_;rintro e w7⟨rfl,J⟩;have ru:=zT Cn J;clear J nG;cases r3
     .go_wp2;go_ret;exact⟨by rw[Z.o];rfl,ru.o⟩
     .go_wp2;go_ret;exact⟨by rw[Z.o];rfl,ru.o⟩
def ATree.free(M:MRep)(a:ATree):Prop:=∀k∈a.blocks,¬M.has k
section
variable {C:RCtx}{M M':MRep}{w w' wA w1:World}{s s':MSt}{B:Nat}{a:ATree}
theorem MFr.tree(f:MFr M M' w w')(h:TreeAt w B a)(hf:a.free M):TreeAt w' B a∧a.free M':=
 ⟨h.keepB λk hk=>f.block k (h.has k hk).2 (hf k hk),λk hk=>f.free k (h.has k hk).2 (hf k hk)⟩
theorem MFr.nodes(f:MFr M M' w w'){z:Nat}{v:Value}{l:List ATree}(h:jm w z v l)(hf:∀g,v.ownBlock=some g->¬M.has g):jm w' z v l:=
 Z2 h λg m=>f.block g (Y9 h g m).2 (hf g m)
theorem ATree.free.kid(hf:a.free M){x:ATree}(hx:x∈a.kids):x.free M:=by
 intro k hk;refine hf k ?_;obtain⟨b,v,g,t,n,l⟩:=a;simp only[ATree.blocks,List.mem_cons,List.mem_append,UQ];exact .inr (.inr (List.mem_flatMap.2 ⟨x,hx,hk⟩))
theorem Inv.lens{d:Nat}(h:Inv s d):(∀(m:Nat) (c:LScope),s.H.scopes[m]?=some c->c.names.length<1099511627776)∧(∀(m:Nat) (o:LObj),s.H.objects[m]?=some o->o.props.length<1099511627776)∧
 s.H.scopes.length<1000000000∧s.H.objects.length<1000000000∧s.owners.length<1000000000∧s.clos.length<1000000000∧s.log.length<1000000000∧s.seen.length<1000000000:=by
 have p:=h.steps;have u:=h.szO;have y:=h.szS;have E:=h.szC;have F:=h.szL;have h5:=h.szN;have G:=h.own;refine⟨λm c g=>?_,λm o g=>?_,by omega,by omega,by omega,by omega,by omega,by omega⟩
 .have:=(h.scp c (Yd g)).2.2.2;omega
 .have:=(h.obj o (Yd g)).2.2.2;omega
theorem Zjf{N:Nat->Int}{P:List ATree}{k:Nat}{x:ATree}{sc:Int}(hx:P[k]?=some x) :
 s.lets ((P.take (k+1)).map (ATree.nt N)) sc=(s.lets ((P.take k).map (ATree.nt N)) sc).declare sc x.text (if x.kind=4 then 2 else 1) LVal.zero:=by
 obtain⟨g,m⟩:=List.getElem?_eq_some_iff.1 hx;unfold MSt.lets;rw[List.take_succ_eq_append_getElem g,m,Yl,List.foldl_append];show MSt.declare _ _ (x.nt N).text (if(x.nt N).kind=4 then 2 else 1) _=_;rw[Zz,Zc]
theorem Z82(h:MAt C M w s){d:Nat}(hI:Inv s (d+a.kids.length))(U:TreeAt w B a)(hf:a.free M)(hn:a.kids.length<1099511627776)(sc:Int) :
 Calls Tryz.prog 19 #[vP C.mb,a.ptr,vI sc] w λe w'=>e=.returned (.tuple #[])∧
  ∃M',MAt C M' w' (s.lets (a.nt C.N).lets sc)∧MFr M M' w w':=by
 have HL:=lh (Va w B a U hn);rw[YB];obtain⟨P,hP⟩:=zX (a.kids.filter wH)
 rw[<-hP]at HL ⊢;have vK:P.length<=a.kids.length:=QS
 refine Znz ?_;intro oV;have HM:=lh h;have HI:=lh hI;have HT:=lh U;have HF:=lh hf;have mN:=lh vK;clear h hI U hf hP vK;unfold ATree.ptr at HL ⊢;go_enter Tryz.func19,Tryz.ntmps19
 go_wp2_with fail
 refine HL.o.mono ?_;rintro e w2⟨v2,rfl,u,J⟩;have aQ:=HM.o.below J;obtain⟨p2,jP,rfl,dN,fZ,dn⟩:=u.slice;have X:∀g,(Value.slice p2 P.length jP).ownBlock=some g->¬M.has g:=λg hg=>HM.o.fresh (Y9 u g hg).1;refine Ht ?_;intro q cT ng;rw[<-cT]at dN u X ⊢;have N2:=lh u;have lV:=lh X;have gZ:=lh dn;have d7:=lh cT;have bW:=lh aQ;have aO:=lh J;have gr:=lh (HT.o.bel J);clear u J aQ X dn cT HL HT;go_wp2_with fail
 go_loopw [12] (λi wr=>∃(k:Nat) (M1:MRep),k<=q∧i=(vI k)∧Hid (MAt C M1 wr (s.lets ((P.take k).map (ATree.nt C.N)) sc))∧Hid (MFr M M1 w2 wr)) (λi _=>q-(intOf i).toNat)
 case atStart=>exact⟨0,M,Yh _,rfl,bW,lh (MFr.refl _ _)⟩
 case round=>
  obtain⟨k,M1,hk,rfl,O,y⟩:=hrel;by_cases bV:k<q
  .obtain⟨x,hx⟩:∃x,P[k]? =some x:=⟨_,Y6 Pr⟩
   obtain⟨g0,hp⟩:=gZ.o k x hx;subst hp;have Y:=oV.o x (Yd hx);have cx:=(y.o.nodes N2.o lV.o).cell rfl hx;obtain⟨Z,LV⟩:=y.o.tree (gr.o.kid Y) (HF.o.kid Y);have c0:=Z.c0;have c1:=Z.c1;have Jn:=(TC (s:=s) (sc:=sc) (l:=(P.take k).map (ATree.nt C.N)) (d:=0) (HI.o.less (by rw[Ym,List.length_take];have:=mN.o;omega))).1;have m:=lh (Za0 O.o.drew.heap sc x.text (if x.kind=4 then 2 else 1) LVal.zero Jn.lens.1);have xN:=lh (Zjf (s:=s) (N:=C.N) (sc:=sc) hx);clear Z LV Y Jn
   by_cases p:x.kind=4
   .rw[p]at c0;rw[Y5 p]at m;go_wp2_with fail
    refine Z8 [0,2,4,6,8,10,12,14,16,18] [10] (λW=>vC W x.b 1 (.string x.text)) c1 λ_=>?_;refine dW ?_
    iterate 10
     refine dV ?_
    refine Z0 ?_;go_wp2_with fail
    refine m.o.mono ?_;rintro e w3⟨rfl,ρ',L',E,F⟩;obtain⟨I,a2⟩:=O.o.drew.heapStep E F;have oW:=lh I;have oX:=lh ((MFr.drew (.refl M1 wr)).trans a2);clear I a2 E F m;go_wp2_with fail
    go_roundw
    case rel=>
     refine⟨k+1,_,by omega,by go_num,lh ?_,lh (y.o.trans oX.o)⟩;have e:=xN.o;rw[Y5 p]at e;rw[e];exact oW.o
    case measure=>simp[intOf];omega
   .have b4:(x.kind==4)=false:=by simp[p]
    rw[Y3 p]at m;go_wp2_with fail
    refine Z8 [0,2,4,6,8,10,12,14,16,18] [10] (λW=>vC W x.b 1 (.string x.text)) c1 λ_=>?_;refine dW ?_
    iterate 10
     refine dV ?_
    refine Z0 ?_;go_wp2_with fail
    refine m.o.mono ?_;rintro e w3⟨rfl,ρ',L',E,F⟩;obtain⟨I,a2⟩:=O.o.drew.heapStep E F;have oW:=lh I;have oX:=lh ((MFr.drew (.refl M1 wr)).trans a2);clear I a2 E F m;go_wp2_with fail
    go_roundw
    case rel=>
     refine⟨k+1,_,by omega,by go_num,lh ?_,lh (y.o.trans oX.o)⟩;have e:=xN.o;rw[Y3 p]at e;rw[e];exact oW.o
    case measure=>simp[intOf];omega
  .have aR:k=q:=by omega
   subst aR;go_wp2;go_end0
   refine⟨rfl,M1,?_,(MFr.of_below aO.o).trans y.o⟩;have:=O.o;rwa[Ye Pz]at this
end
section
variable {C:RCtx}{M M':MRep}{w w' wA w1:World}{s s':MSt}{B:Nat}{a:ATree}
theorem TreeAt.typed(h:TreeAt w B a):∀k∈a.blocks,∃c T f,w.heap[k]?=some (.cells c T f)∧(T=42∨T=22):=by
 induction h with
 | @mk b v kind text n kids blk le row m o =>
   intro k hk;simp only[ATree.blocks,List.mem_cons,List.mem_append,UQ,List.mem_flatMap]at hk;rcases hk with rfl|hk|⟨x,hx,hk⟩;·exact⟨_,_,_,blk,.inl rfl⟩
   .rcases row.2 with⟨rfl,_⟩|⟨g,cap,u,rfl,_,p,_⟩;·simp[Value.ownBlock]at hk
    .simp only[Value.ownBlock,Option.mem_toList,Option.some.injEq]at hk;subst hk;exact⟨_,_,_,p,.inr rfl⟩
   .exact o x hx k hk
theorem MAt.aside(h:MAt C M w s){b:Nat}{c:Array Value}{T:TypeId}{f:Nat×Nat}(hb:w.heap[b]?=some (.cells c T f))(E:T≠42)(F:T≠22)(hf:¬M.has b)(I:C.w0.heap.size<=b)
 (hs:w'.heap.size=w.heap.size)(hk:∀k,k≠b->w'.heap[k]?=w.heap[k]?)(ho:w'.os=w.os)(ht:w'.tape=w.tape)(hp:w'.output=w.output):MAt C M w' s where
 heap:=h.heap.keep (Nat.le_of_eq hs.symm) λk hr=>hk k λe=>hf (.inl (e▸hr))
 cell o x hx:=(Yb (hk _ λe=>hf (e▸h.mbHas))).trans (h.cell o x hx)
 rcell i hi:=(Yb (hk _ λe=>hf (e▸h.mbHas))).trans (h.rcell i hi)
 fz o:=(Yn (hk _ λe=>hf (e▸h.mbHas))).trans (h.fz o)
 rows i hi:=Z2 (h.rows i hi) λg p=>hk g λe=>hf (.inr ⟨i,hi,e▸p⟩)
 rfree i hi g p:=⟨(h.rfree i hi g p).1,by rw[hs];exact(h.rfree i hi g p).2⟩
 rdist:=h.rdist
 clos:=h.clos
 trees x hx:=⟨(h.trees x hx).1.keepB λk u=>hk k λe=>by
  obtain⟨c',T',J,y,m⟩:=(h.trees x hx).1.typed k u;rw[e,hb]at y;cases y;rcases m with m|m;·exact E m
  .exact F m,(h.trees x hx).2⟩
 old:=⟨ho.trans h.old.os,ht.trans h.old.tape,hp.trans h.old.output,Y4 h.old.size (Nat.le_of_eq hs.symm),λk u=>(hk k O').trans (h.old.block k u)⟩
 far:=h.far
theorem MAt.local{b:Nat}{c:Array Value}{T:TypeId}{f:Nat×Nat}{o:Nat}{v:Value}(h:MAt C M w s)(hb:w.heap[b]?=some (.cells c T f))(g:T≠42)(m:T≠22)(hf:¬M.has b)(p:C.w0.heap.size<=b) :
 MAt C M (w.setCell ⟨b,o,none⟩ v) s:=
 h.aside hb g m hf p PF (λk hk=>Y8 _ _ _ _ hk) rfl rfl rfl
end
