import Derived.Test.YtkjdnecemhilpaaGreatDoorJ18
import Derived.RowKitTokens
set_option maxRecDepth 100000
set_option maxHeartbeats 20000000
set_option linter.all false
namespace Go.Proofs.YtkjdnecemhilpaaGreatDoor
open Go Go.RowKit Go.Proofs.Tryz Tryz
def ra{G' G:Prop}(h:G')(i:Hid G'->G:=by
 intro HQ_
 repeat
  first
   |(refine Z4z ?_ Qt Qt (λw'=>?_) ?_;rotate_left;(go_simp;first|done|with_reducible rfl);simp only[Act.put,zA,zB,zC])
   |(refine Z7t ?_ Qt Qh Qt (λw' lW=>?_) ?_;rotate_left;((repeat(have Ii:=lW.1;replace lW:=lW.2));go_simp;first|done|with_reducible rfl);simp only[Act.put,zA,zB,zC])
 exact HQ_.o):G:=i (lh h)
def pU{G' G:Prop}(h:G')(i:Hid G'->G:=by
 intro HQ_;try simp only[Ud,List.filterMap_cons,List.filterMap_nil,List.getElem?_toArray,List.getElem?_cons_zero,List.getElem?_cons_succ,Option.map_some]
 repeat
  first
   |(refine Zam ?_ Qt (λw' lW=>?_) ?_;rotate_left;((repeat(have Ii:=lW.1;replace lW:=lW.2));go_simp;first|done|with_reducible rfl);simp only[Act.put,zA,zB,zC])
   |(refine Zgi Qt ?_;simp only[Act.put,zA,zB,zC])
 exact HQ_.o):G:=i (lh h)
def oK{H X:(Act->kV->Prop)->Prop}{G:Prop}(h:∀K,H K->X K)(i:Hid (∀K,H K->X K)->G:=by
 intro HQ_;refine Zpp Qt Qt Qt (λK hK=>?_);simp only[List.getElem_toArray,List.getElem_cons_succ,List.getElem_cons_zero];unfold Oper.wp execOp;go_simp;exact HQ_.o K hK):G:=i (lh h)
def IG{H X:(Act->kV->Prop)->Prop}{G:Prop}(h:∀K,H K->X K)(i:Hid (∀K,H K->X K)->G:=by
 intro HQ_;refine Zjf Qt Qt Qt (λK hK=>?_);simp only[List.getElem_toArray,List.getElem_cons_succ,List.getElem_cons_zero];unfold Oper.wp execOp;go_simp;exact HQ_.o K hK):G:=i (lh h)
def Tm{a b c d G:Prop}(hs:Hid a)(hc:Hid b)(he:c)(ho:d)(i:Hid a->Hid b->c->d->G:=by
 intro HS HC HE HO cg;refine oK (λK hK=>?_);refine(HC.o _ (Zd _)).mono ?_;rintro e w1⟨M1,k,n,t,ev,rfl,hr⟩;have bB:=hr.pre (Zd _);refine hK _ _ (HS.o _ _ bB.2.1) ?_;have fY:=lh bB;clear bB hr hK K;refine Uv ?_;repeat(refine oK (λK hK=>?_);refine hK _ _ (HS.o _ _ (fY.o.2.1.trans (.of_below (Z2 _ _)))) ?_;clear hK K;try simp only[Act.put,zA,zB,zC])
 repeat(refine IG (λK hK=>?_);refine hK _ _ ?_;clear hK K)
 refine SH ?_;have hv:=fY.o.boxA HE HO;unfold vO at hv;generalize w1.alloc (.cells #[vI k,vI n,.string t] 71)=Wg at hv ⊢;generalize w1.heap.size=p2 at hv ⊢;exact cg.o Wg p2 M1 k n t ev hv):G:=i hs hc he ho
def OS{a b c d m G:Prop}(hs:Hid a)(hc:Hid b)(hm:Hid m)(he:c)(ho:d)(i:Hid a->Hid b->Hid m->c->d->G:=by
 intro HS HC HM HE HO cg;refine V9 ?_;intro w1 M1 k n t ev q0 q1 q2 y0 y1 y2 cD fD;repeat(refine oK (λK hK=>?_);refine hK _ _ cD.o ?_;clear hK K;try simp only[Act.put,zA,zB,zC])
 repeat(refine IG (λK hK=>?_);refine hK _ _ ?_;clear hK K)
 refine SH ?_;clear q0 q1 q2 y0 y1 y2;have hv:=fD.o;clear fD;generalize((w1.setCell ⟨z.heap.size,0,none⟩ (vI k)).setCell ⟨z.heap.size,1,none⟩ (vI n)).setCell ⟨z.heap.size,2,none⟩ (.string t)=Wg at hv ⊢;generalize z.heap.size=p2 at hv ⊢;exact cg.o Wg p2 M1 k n t ev hv):G:=i hs hc hm he ho
def Zy0{a b c d m G:Prop}(hs:Hid a)(hc:Hid b)(hm:Hid m)(he:c)(ho:d)(i:Hid a->Hid b->Hid m->c->d->G:=by
 intro HS HC HM HE HO cg;refine V9 ?_;intro w1 M1 k n t ev q0 q1 q2 y0 y1 y2 cD fD;repeat(refine oK (λK hK=>?_);refine hK _ _ cD.o ?_;clear hK K;try simp only[Act.put,zA,zB,zC])
 repeat(refine IG (λK hK=>?_);refine hK _ _ ?_;clear hK K)
 refine SH ?_;clear q0 q1 q2 y0 y1 y2;have hv:=fD.o;clear fD;generalize((w1.setCell ⟨W0.heap.size,0,none⟩ (vI k)).setCell ⟨W0.heap.size,1,none⟩ (vI n)).setCell ⟨W0.heap.size,2,none⟩ (.string t)=Wg at hv ⊢;generalize W0.heap.size=p2 at hv ⊢;exact cg.o Wg p2 M1 k n t ev hv):G:=i hs hc hm he ho
def Zzv{a b c d m G:Prop}(hs:Hid a)(hc:Hid b)(hm:Hid m)(he:c)(ho:d)(i:Hid a->Hid b->Hid m->c->d->G:=by
 intro HS HC HM HE HO cg;refine V9 ?_;intro w1 M1 k n t ev q0 q1 q2 y0 y1 y2 cD fD;repeat(refine oK (λK hK=>?_);refine hK _ _ cD.o ?_;clear hK K;try simp only[Act.put,zA,zB,zC])
 repeat(refine IG (λK hK=>?_);refine hK _ _ ?_;clear hK K)
 refine SH ?_;clear q0 q1 q2 y0 y1 y2;have hv:=fD.o;clear fD;generalize((w1.setCell ⟨W1.heap.size,0,none⟩ (vI k)).setCell ⟨W1.heap.size,1,none⟩ (vI n)).setCell ⟨W1.heap.size,2,none⟩ (.string t)=Wg at hv ⊢;generalize W1.heap.size=p2 at hv ⊢;exact cg.o Wg p2 M1 k n t ev hv):G:=i hs hc hm he ho
def Xs{a b c d m G:Prop}(hs:Hid a)(hc:Hid b)(hm:Hid m)(he:c)(ho:d)(i:Hid a->Hid b->Hid m->c->d->G:=by
 intro HS HC HM HE HO cg;refine V9 ?_;intro w1 M1 k n t ev q0 q1 q2 y0 y1 y2 cD fD;repeat(refine oK (λK hK=>?_);refine hK _ _ cD.o ?_;clear hK K;try simp only[Act.put,zA,zB,zC])
 repeat(refine IG (λK hK=>?_);refine hK _ _ ?_;clear hK K)
 refine SH ?_;clear q0 q1 q2 y0 y1 y2;have hv:=fD.o;clear fD;generalize((w1.setCell ⟨wr.heap.size,0,none⟩ (vI k)).setCell ⟨wr.heap.size,1,none⟩ (vI n)).setCell ⟨wr.heap.size,2,none⟩ (.string t)=Wg at hv ⊢;generalize wr.heap.size=p2 at hv ⊢;exact cg.o Wg p2 M1 k n t ev hv):G:=i hs hc hm he ho
def kDA{a b c d G:Prop}(hs:Hid a)(hc:Hid b)(he:c)(ho:d)(i:Hid a->Hid b->c->d->G:=by
 intro HS HC HE HO cg;refine oK (λK hK=>?_);refine(HC.o _ (Zd _)).mono ?_;rintro e w1⟨M1,b,k,n,t,ev,rfl,hr⟩;have bB:=hr.pre (Zd _);refine hK _ _ (HS.o _ _ bB.2.1) ?_;have fY:=lh bB;clear bB hr hK K;refine Uv ?_;repeat(refine oK (λK hK=>?_);refine hK _ _ (HS.o _ _ (fY.o.2.1.trans (.of_below (Z2 _ _)))) ?_;clear hK K;try simp only[Act.put,zA,zB,zC])
 repeat(refine IG (λK hK=>?_);refine hK _ _ ?_;clear hK K)
 refine SH ?_;have hv:=fY.o.boxA HE HO;unfold vO at hv;generalize w1.alloc (.cells #[vI k,vI n,.string t] 71)=Wg at hv ⊢;generalize w1.heap.size=p2 at hv ⊢;exact cg.o Wg p2 M1 b k n t ev hv):G:=i hs hc he ho
def AcQ{a b c d m G:Prop}(hs:Hid a)(hc:Hid b)(hm:Hid m)(he:c)(ho:d)(i:Hid a->Hid b->Hid m->c->d->G:=by
 intro HS HC HM HE HO cg;refine VX ?_;intro w1 M1 b k n t ev q0 q1 q2 y0 y1 y2 cD fD;repeat(refine oK (λK hK=>?_);refine hK _ _ cD.o ?_;clear hK K;try simp only[Act.put,zA,zB,zC])
 repeat(refine IG (λK hK=>?_);refine hK _ _ ?_;clear hK K)
 refine SH ?_;clear q0 q1 q2 y0 y1 y2;have hv:=fD.o;clear fD;generalize((w1.setCell ⟨z.heap.size,0,none⟩ (vI k)).setCell ⟨z.heap.size,1,none⟩ (vI n)).setCell ⟨z.heap.size,2,none⟩ (.string t)=Wg at hv ⊢;generalize z.heap.size=p2 at hv ⊢;exact cg.o Wg p2 M1 b k n t ev hv):G:=i hs hc hm he ho
def Aa1{a b c d m G:Prop}(hs:Hid a)(hc:Hid b)(hm:Hid m)(he:c)(ho:d)(i:Hid a->Hid b->Hid m->c->d->G:=by
 intro HS HC HM HE HO cg;refine VX ?_;intro w1 M1 b k n t ev q0 q1 q2 y0 y1 y2 cD fD;repeat(refine oK (λK hK=>?_);refine hK _ _ cD.o ?_;clear hK K;try simp only[Act.put,zA,zB,zC])
 repeat(refine IG (λK hK=>?_);refine hK _ _ ?_;clear hK K)
 refine SH ?_;clear q0 q1 q2 y0 y1 y2;have hv:=fD.o;clear fD;generalize((w1.setCell ⟨W2.heap.size,0,none⟩ (vI k)).setCell ⟨W2.heap.size,1,none⟩ (vI n)).setCell ⟨W2.heap.size,2,none⟩ (.string t)=Wg at hv ⊢;generalize W2.heap.size=p2 at hv ⊢;exact cg.o Wg p2 M1 b k n t ev hv):G:=i hs hc hm he ho
def Zvd{a b c d m G:Prop}(hs:Hid a)(hc:Hid b)(hm:Hid m)(he:c)(ho:d)(i:Hid a->Hid b->Hid m->c->d->G:=by
 intro HS HC HM HE HO cg;refine VX ?_;intro w1 M1 b k n t ev q0 q1 q2 y0 y1 y2 cD fD;repeat(refine oK (λK hK=>?_);refine hK _ _ cD.o ?_;clear hK K;try simp only[Act.put,zA,zB,zC])
 repeat(refine IG (λK hK=>?_);refine hK _ _ ?_;clear hK K)
 refine SH ?_;clear q0 q1 q2 y0 y1 y2;have hv:=fD.o;clear fD;generalize((w1.setCell ⟨z1.heap.size,0,none⟩ (vI k)).setCell ⟨z1.heap.size,1,none⟩ (vI n)).setCell ⟨z1.heap.size,2,none⟩ (.string t)=Wg at hv ⊢;generalize z1.heap.size=p2 at hv ⊢;exact cg.o Wg p2 M1 b k n t ev hv):G:=i hs hc hm he ho
def AcK{a b c d m G:Prop}(hs:Hid a)(hc:Hid b)(hm:Hid m)(he:c)(ho:d)(i:Hid a->Hid b->Hid m->c->d->G:=by
 intro HS HC HM HE HO cg;refine VX ?_;intro w1 M1 b k n t ev q0 q1 q2 y0 y1 y2 cD fD;repeat(refine oK (λK hK=>?_);refine hK _ _ cD.o ?_;clear hK K;try simp only[Act.put,zA,zB,zC])
 repeat(refine IG (λK hK=>?_);refine hK _ _ ?_;clear hK K)
 refine SH ?_;clear q0 q1 q2 y0 y1 y2;have hv:=fD.o;clear fD;generalize((w1.setCell ⟨W.heap.size,0,none⟩ (vI k)).setCell ⟨W.heap.size,1,none⟩ (vI n)).setCell ⟨W.heap.size,2,none⟩ (.string t)=Wg at hv ⊢;generalize W.heap.size=p2 at hv ⊢;exact cg.o Wg p2 M1 b k n t ev hv):G:=i hs hc hm he ho
def words(x:LVal):List Value:=[vI x.kind,vI x.n,.string x.s]
section
variable {C:RCtx}{M M' M0:MRep}{w w' w1 w2 wE W:kV}{s s':MSt}{B:Nat}{a:ATree}
def MAt.grown(h:MAt C M w s){row:Option Nat}(m:w.grownBy w' row)(hr:∀b,row=some b->(∃c T f,w.heap[b]?=some (.cells c T f)/\T≠28/\T≠22)/\¬M.has b/\C.w0.heap.size<=b):MAt C M w' s:=by
 have hk:∀k,M.has k->w'.heap[k]?=w.heap[k]?:=λk F=>m.block k (h.lt F) λe=>(hr k e.symm).2.1 F;exact
 { heap := h.heap.keep m.size fun k hr => hk k (.inl hr)
   cell:=λo x hx=>(Yb (hk _ h.mbHas)).trans (h.cell o x hx)
   rcell:=λi hi=>(Yb (hk _ h.mbHas)).trans (h.rcell i hi)
   fz:=λo=>(Yn (hk _ h.mbHas)).trans (h.fz o)
   rows:=λi hi=>Z3 (h.rows i hi) λg y=>hk g (.inr ⟨i,hi,y⟩)
   rfree:=λi hi g y=>⟨(h.rfree i hi g y).1,Y7 (h.rfree i hi g y).2 m.size⟩
   rdist:=h.rdist
   clos:=h.clos
   trees:=λx hx=>⟨(h.trees x hx).1.keepB λk p=>m.block k ((h.trees x hx).1.has k p).2 λe=>by
    obtain⟨⟨c,T,f,J,O,U⟩,-,-⟩:=hr k e.symm;obtain⟨c',T',X,I,u⟩:=(h.trees x hx).1.typed k p;rw[J]at I;cases I;rcases u with u|u;·exact O u
    .exact U u,(h.trees x hx).2⟩
   old:=⟨m.os.trans h.old.os,m.tape.trans h.old.tape,m.output.trans h.old.output,Y4 h.old.size m.size,λk p=>(m.block k (Y7 p h.old.size) λe=>absurd (hr k e.symm).2.2 Qe).trans (h.old.block k p)⟩
   far:=h.far}
structure VRow(C:RCtx)(M:MRep)(wE w:kV)(v:Value)(vs:List LVal):Prop where
 row:w.ownsRow wE.heap.size 71 3 v vs.length (vs.flatMap words)
 free:∀g,v.ownBlock=some g->¬M.has g
 old:C.w0.heap.size<=wE.heap.size
def VRow.fr{v:Value}{vs:List LVal}(h:VRow C M wE w v vs)(f:MFr M M' w w'):VRow C M' wE w' v vs:=
 ⟨Z3 h.row λg m=>f.block g (Y9 h.row g m).2 (h.free g m),λg m=>f.free g (Y9 h.row g m).2 (h.free g m),h.old⟩
theorem VRow.late{v:Value}{vs:List LVal}(h:VRow C M wE w v vs):∀g,v.ownBlock=some g->wE.heap.size<=g:=λg m=>(Y9 h.row g m).1
def VRow.nil(m:C.w0.heap.size<=wE.heap.size):VRow C M wE w (.slice none 0 0) []:=
 ⟨⟨rfl,.inl ⟨rfl,rfl⟩⟩,λg o=>(by cases o),m⟩
def VRow.push{v:Value}{vs:List LVal}{x:LVal}{g cap:Nat}(h:VRow C M wE w v vs)(y:MAt C M w s)(F:MFr M0 M wE w)(p:kW w w1)(m:w1.grownBy w2 v.ownBlock)
 (G:w2.ownsRow wE.heap.size 71 3 (.slice (some ⟨g,0,none⟩) (vs.length+1) cap) (vs.length+1) (vs.flatMap words++words x))(u:v.ownBlock=some g\/w.heap.size<=g) :
 MAt C M w2 s/\MFr M0 M wE w2/\VRow C M wE w2 (.slice (some ⟨g,0,none⟩) (vs.length+1) cap) (vs++[x])/\(∀b c T,Lo C M wE w b c T->v.ownBlock≠some b->Lo C M wE w2 b c T):=by
 have I:=h.fr (MFr.of_below p);have J:=y.below p;have o:=F.trans (MFr.of_below (M:=M) p);have hr:∀b,v.ownBlock=some b->(∃c T f,w1.heap[b]?=some (.cells c T f)/\T≠28/\T≠22)/\¬M.has b/\C.w0.heap.size<=b:=λb hb=>by
  refine⟨?_,h.free b hb,Y4 h.old (h.late b hb)⟩;rcases I.row.2 with⟨rfl,_⟩|⟨Z,yU,iw,rfl,_,O,_⟩;·cases hb
  .cases hb;exact⟨_,_,_,O,by decide,by decide⟩
 have U:=J.grown m hr;refine⟨U,⟨m.os.trans o.os,m.tape.trans o.tape,m.output.trans o.output,Y4 o.size m.size,λk hk X=>(m.block k (Y7 hk o.size) λe=>by have:=h.late k e.symm;omega).trans (o.block k hk X),o.free⟩,⟨by simpa using G,λb hb=>?_,h.old⟩,λb c T hl Y=>⟨(m.block b (Y7 hl.lt p.size) λe=>Y e.symm).trans ((p.block b hl.lt).trans hl.blk),hl.free,hl.late,hl.old⟩⟩;cases hb;rcases u with u|u;·exact h.free g u
 .exact y.fresh u
theorem Z9h:∀(vs:List LVal) {i:Nat} {x:LVal},vs[i]?=some x->∀j,j<3->(vs.flatMap words)[3*i+j]?=(words x)[j]?
 | [],_,_,hx,_,_=>by cases hx
 |y::l,0,x,hx,j,g=>by
   cases hx;rw[List.flatMap_cons,List.getElem?_append_left (by simp[words];omega)];simp
 |y::l,i+1,x,hx,j,g=>by
   rw[List.flatMap_cons,List.getElem?_append_right (by simp[words];omega),show 3*(i+1)+j-(words y).length=3*i+j by simp[words];omega];exact Z9h l hx j g
def VRow.cells{v:Value}{vs:List LVal}(h:VRow C M wE w v vs):(v=.slice none 0 0/\vs=[])\/∃g cap,v=.slice (some ⟨g,0,none⟩) vs.length cap/\vs.length<=cap/\cap<=maxLen/\g<w.heap.size/\
 ∀(i:Nat) (x:LVal),vs[i]?=some x->w.cell? ⟨g,3*i,none⟩=some (vI x.kind)/\w.cell? ⟨g,3*i+1,none⟩=some (vI x.n)/\w.cell? ⟨g,3*i+2,none⟩=some (.string x.s):=by
 have m:=h.row;rcases h.row.2 with⟨rfl,o⟩|⟨g,cap,J,rfl,_,p,u,y,_⟩;·exact .inl ⟨rfl,List.eq_nil_of_length_eq_zero o⟩
 .refine .inr ⟨g,cap,rfl,u,y,(Y1.1 p).1,λi x hx=>?_⟩;have hi:=(List.getElem?_eq_some_iff.1 hx).1;have o:=(m.cellAt (3*i) Qe).trans (Z9h vs hx 0 Qe);have F:=(m.cellAt (3*i+1) Qe).trans (Z9h vs hx 1 Qe);have I:=(m.cellAt (3*i+2) Qe).trans (Z9h vs hx 2 Qe);exact⟨o,F,I⟩
end
def Hr:List Nat->Code->Code
 | [],c=>c
 |i::p,.seq a b=>Hr p (if i=0 then a else b)
 |i::p,.cond _ a b=>Hr p (if i=0 then a else b)
 |_::p,.block _ c=>Hr p c
 |_::p,.loop c=>Hr p c
 |_::p,.scope c=>Hr p c
 |_::_,_=>.skip
def FrX(x:Nat->Value):List (Nat×Value)->Prop
 | []=>True
 |(i,v)::l=>x i=v/\FrX x l
structure FrA(n:Nat)(T:List (Nat×Value))(D:List Deferred)(a:Act):Prop where
 size:a.tmps.size=n
 val:FrX (λi=>a.tmps.getD i undef) T
 defs:a.defers=D
def Zby{T:List (Nat×Value)}{D:List Deferred}{a:Act}(h:FrA 193 T D a):∃x:Nat->Value,a=⟨#[x 0,x 1,x 2,x 3,x 4,x 5,x 6,x 7,x 8,x 9,x 10,x 11,x 12,x 13,x 14,x 15,x 16,x 17,x 18,x 19,x 20,x 21,x 22,x 23,x 24,x 25,x 26,x 27,x 28,x 29,x 30,x 31,x 32,x 33,x 34,x 35,x 36,x 37,x 38,x 39,x 40,x 41,x 42,x 43,x 44,x 45,x 46,x 47,x 48,x 49,x 50,x 51,x 52,x 53,x 54,x 55,x 56,x 57,x 58,x 59,x 60,x 61,x 62,x 63,x 64,x 65,x 66,x 67,x 68,x 69,x 70,x 71,x 72,x 73,x 74,x 75,x 76,x 77,x 78,x 79,x 80,x 81,x 82,x 83,x 84,x 85,x 86,x 87,x 88,x 89,x 90,x 91,x 92,x 93,x 94,x 95,x 96,x 97,x 98,x 99,x 100,x 101,x 102,x 103,x 104,x 105,x 106,x 107,x 108,x 109,x 110,x 111,x 112,x 113,x 114,x 115,x 116,x 117,x 118,x 119,x 120,x 121,x 122,x 123,x 124,x 125,x 126,x 127,x 128,x 129,x 130,x 131,x 132,x 133,x 134,x 135,x 136,x 137,x 138,x 139,x 140,x 141,x 142,x 143,x 144,x 145,x 146,x 147,x 148,x 149,x 150,x 151,x 152,x 153,x 154,x 155,x 156,x 157,x 158,x 159,x 160,x 161,x 162,x 163,x 164,x 165,x 166,x 167,x 168,x 169,x 170,x 171,x 172,x 173,x 174,x 175,x 176,x 177,x 178,x 179,x 180,x 181,x 182,x 183,x 184,x 185,x 186,x 187,x 188,x 189,x 190,x 191,x 192],D⟩/\FrX x T:=by
 obtain⟨t,dd⟩:=a;obtain⟨h1,g,h3⟩:=h;refine⟨λi=>t.getD i undef,?_,g⟩;have e:t=((List.range 193).map λi=>t.getD i undef).toArray:=by
  have h1:t.size=193:=h1;exact Zpb
 exact VT
def Zcu{T:List (Nat×Value)}{D:List Deferred}{a:Act}(h:FrA 201 T D a):∃x:Nat->Value,a=⟨#[x 0,x 1,x 2,x 3,x 4,x 5,x 6,x 7,x 8,x 9,x 10,x 11,x 12,x 13,x 14,x 15,x 16,x 17,x 18,x 19,x 20,x 21,x 22,x 23,x 24,x 25,x 26,x 27,x 28,x 29,x 30,x 31,x 32,x 33,x 34,x 35,x 36,x 37,x 38,x 39,x 40,x 41,x 42,x 43,x 44,x 45,x 46,x 47,x 48,x 49,x 50,x 51,x 52,x 53,x 54,x 55,x 56,x 57,x 58,x 59,x 60,x 61,x 62,x 63,x 64,x 65,x 66,x 67,x 68,x 69,x 70,x 71,x 72,x 73,x 74,x 75,x 76,x 77,x 78,x 79,x 80,x 81,x 82,x 83,x 84,x 85,x 86,x 87,x 88,x 89,x 90,x 91,x 92,x 93,x 94,x 95,x 96,x 97,x 98,x 99,x 100,x 101,x 102,x 103,x 104,x 105,x 106,x 107,x 108,x 109,x 110,x 111,x 112,x 113,x 114,x 115,x 116,x 117,x 118,x 119,x 120,x 121,x 122,x 123,x 124,x 125,x 126,x 127,x 128,x 129,x 130,x 131,x 132,x 133,x 134,x 135,x 136,x 137,x 138,x 139,x 140,x 141,x 142,x 143,x 144,x 145,x 146,x 147,x 148,x 149,x 150,x 151,x 152,x 153,x 154,x 155,x 156,x 157,x 158,x 159,x 160,x 161,x 162,x 163,x 164,x 165,x 166,x 167,x 168,x 169,x 170,x 171,x 172,x 173,x 174,x 175,x 176,x 177,x 178,x 179,x 180,x 181,x 182,x 183,x 184,x 185,x 186,x 187,x 188,x 189,x 190,x 191,x 192,x 193,x 194,x 195,x 196,x 197,x 198,x 199,x 200],D⟩/\FrX x T:=by
 obtain⟨t,dd⟩:=a;obtain⟨h1,g,h3⟩:=h;refine⟨λi=>t.getD i undef,?_,g⟩;have e:t=((List.range 201).map λi=>t.getD i undef).toArray:=by
  have h1:t.size=201:=h1;exact Zpb
 exact VT
def Zer{T:List (Nat×Value)}{D:List Deferred}{a:Act}(h:FrA 214 T D a):∃x:Nat->Value,a=⟨#[x 0,x 1,x 2,x 3,x 4,x 5,x 6,x 7,x 8,x 9,x 10,x 11,x 12,x 13,x 14,x 15,x 16,x 17,x 18,x 19,x 20,x 21,x 22,x 23,x 24,x 25,x 26,x 27,x 28,x 29,x 30,x 31,x 32,x 33,x 34,x 35,x 36,x 37,x 38,x 39,x 40,x 41,x 42,x 43,x 44,x 45,x 46,x 47,x 48,x 49,x 50,x 51,x 52,x 53,x 54,x 55,x 56,x 57,x 58,x 59,x 60,x 61,x 62,x 63,x 64,x 65,x 66,x 67,x 68,x 69,x 70,x 71,x 72,x 73,x 74,x 75,x 76,x 77,x 78,x 79,x 80,x 81,x 82,x 83,x 84,x 85,x 86,x 87,x 88,x 89,x 90,x 91,x 92,x 93,x 94,x 95,x 96,x 97,x 98,x 99,x 100,x 101,x 102,x 103,x 104,x 105,x 106,x 107,x 108,x 109,x 110,x 111,x 112,x 113,x 114,x 115,x 116,x 117,x 118,x 119,x 120,x 121,x 122,x 123,x 124,x 125,x 126,x 127,x 128,x 129,x 130,x 131,x 132,x 133,x 134,x 135,x 136,x 137,x 138,x 139,x 140,x 141,x 142,x 143,x 144,x 145,x 146,x 147,x 148,x 149,x 150,x 151,x 152,x 153,x 154,x 155,x 156,x 157,x 158,x 159,x 160,x 161,x 162,x 163,x 164,x 165,x 166,x 167,x 168,x 169,x 170,x 171,x 172,x 173,x 174,x 175,x 176,x 177,x 178,x 179,x 180,x 181,x 182,x 183,x 184,x 185,x 186,x 187,x 188,x 189,x 190,x 191,x 192,x 193,x 194,x 195,x 196,x 197,x 198,x 199,x 200,x 201,x 202,x 203,x 204,x 205,x 206,x 207,x 208,x 209,x 210,x 211,x 212,x 213],D⟩/\FrX x T:=by
 obtain⟨t,dd⟩:=a;obtain⟨h1,g,h3⟩:=h;refine⟨λi=>t.getD i undef,?_,g⟩;have e:t=((List.range 214).map λi=>t.getD i undef).toArray:=by
  have h1:t.size=214:=h1;exact Zpb
 exact VT
def Vj{T:List (Nat×Value)}{D:List Deferred}{a:Act}(h:FrA 240 T D a):∃x:Nat->Value,a=⟨#[x 0,x 1,x 2,x 3,x 4,x 5,x 6,x 7,x 8,x 9,x 10,x 11,x 12,x 13,x 14,x 15,x 16,x 17,x 18,x 19,x 20,x 21,x 22,x 23,x 24,x 25,x 26,x 27,x 28,x 29,x 30,x 31,x 32,x 33,x 34,x 35,x 36,x 37,x 38,x 39,x 40,x 41,x 42,x 43,x 44,x 45,x 46,x 47,x 48,x 49,x 50,x 51,x 52,x 53,x 54,x 55,x 56,x 57,x 58,x 59,x 60,x 61,x 62,x 63,x 64,x 65,x 66,x 67,x 68,x 69,x 70,x 71,x 72,x 73,x 74,x 75,x 76,x 77,x 78,x 79,x 80,x 81,x 82,x 83,x 84,x 85,x 86,x 87,x 88,x 89,x 90,x 91,x 92,x 93,x 94,x 95,x 96,x 97,x 98,x 99,x 100,x 101,x 102,x 103,x 104,x 105,x 106,x 107,x 108,x 109,x 110,x 111,x 112,x 113,x 114,x 115,x 116,x 117,x 118,x 119,x 120,x 121,x 122,x 123,x 124,x 125,x 126,x 127,x 128,x 129,x 130,x 131,x 132,x 133,x 134,x 135,x 136,x 137,x 138,x 139,x 140,x 141,x 142,x 143,x 144,x 145,x 146,x 147,x 148,x 149,x 150,x 151,x 152,x 153,x 154,x 155,x 156,x 157,x 158,x 159,x 160,x 161,x 162,x 163,x 164,x 165,x 166,x 167,x 168,x 169,x 170,x 171,x 172,x 173,x 174,x 175,x 176,x 177,x 178,x 179,x 180,x 181,x 182,x 183,x 184,x 185,x 186,x 187,x 188,x 189,x 190,x 191,x 192,x 193,x 194,x 195,x 196,x 197,x 198,x 199,x 200,x 201,x 202,x 203,x 204,x 205,x 206,x 207,x 208,x 209,x 210,x 211,x 212,x 213,x 214,x 215,x 216,x 217,x 218,x 219,x 220,x 221,x 222,x 223,x 224,x 225,x 226,x 227,x 228,x 229,x 230,x 231,x 232,x 233,x 234,x 235,x 236,x 237,x 238,x 239],D⟩/\FrX x T:=by
 obtain⟨t,dd⟩:=a;obtain⟨h1,g,h3⟩:=h;refine⟨λi=>t.getD i undef,?_,g⟩;have e:t=((List.range 240).map λi=>t.getD i undef).toArray:=by
  have h1:t.size=240:=h1;exact Zpb
 exact VT
def Z6q{H:LHeap}{n:Int}{name:kB}{kind:Int}{v:LVal}(h:(H.declare n name kind v).2≠0):(H.declare n name kind v).1=H:=by
 unfold LHeap.declare at h ⊢;rcases hs:H.scope? n with _|s;·rfl
 .rw[hs]at h;simp only at h ⊢;split;·rfl
  .split;·rfl
   .rename_i g m;rw[Y3 g,Y3 m]at h;exact absurd rfl h
section
variable {C:RCtx}{M M' M0:MRep}{w w' wE:kV}
def VRow.form{v:Value}{vs:List LVal}(h:VRow C M wE w v vs):∃pv m,v=.slice pv vs.length m/\vs.length<=m/\m<=maxLen/\
 ∀(i:Nat) (x:LVal),vs[i]?=some x->∃g,pv=some ⟨g,0,none⟩/\g<w.heap.size/\¬M.has g/\w.cell? ⟨g,i*3,none⟩=some (vI x.kind)/\w.cell? ⟨g,i*3+1,none⟩=some (vI x.n)/\w.cell? ⟨g,i*3+2,none⟩=some (.string x.s):=by
 rcases h.cells with⟨rfl,rfl⟩|⟨g,cap,rfl,o,p,u,y⟩;·exact⟨none,0,rfl,Y0 _,Yh _,λi x hx=>by simp at hx⟩
 .refine⟨_,cap,rfl,o,p,λi x hx=>?_⟩;obtain⟨a,b,c⟩:=y i x hx;rw[Nat.mul_comm 3 i]at a b c;exact⟨g,rfl,u,h.free g rfl,a,b,c⟩
end
def Zhk{H:LHeap}{n:Int}{name:kB}{v:LVal}{fx:Bool}(g:0<=n)(m:n<H.objects.length):(H.put n name v fx).2=0:=by
 unfold LHeap.put;rcases ho:H.object? n with _|o
 .unfold LHeap.object? at ho;rw[Y3 Qe]at ho;have:=List.getElem?_eq_none_iff.1 ho;omega
 .simp only;split<;>rfl
section
variable {C:RCtx}{M M':MRep}{w w':kV}{s s':MSt}{B:Nat}{a:ATree}{V:VF}{D:DF}{b:Int}{sc:Int}{fr:Frm}{d:Nat}
def zd.from(m:zd C V b)(h:MAt C M w s)(hI:Inv s d)(o:FAt s sc fr)(hb:b<=s.steps)(hs:s.steps<=20000)(hw:(a.nt C.N).wf .v)(p:(a.nt C.N).tree.many<=1500)(u:TreeAt w B a)(hf:a.free M) :
 ∀ W, kW w W → kC 95 #[vP C.mb, vP a.b, vI sc, .agg #[.bool fr.strict, vI fr.vars]] W
   λe w'=>∃M' k n t ev,e=.returned (.tuple #[ag k n t,ev])/\rF C M W (V (a.nt C.N) sc fr s) w' M' k n t ev:=
 λW g=>Calls.vres (m W M s a B sc fr d (h.below g) hI o hb hs hw p (u.bel g) hf)
def FR.from(m:FR C D b)(h:MAt C M w s)(hI:Inv s d)(o:FAt s sc fr)(hb:b<=s.steps)(hs:s.steps<=20000)(hw:(a.nt C.N).wf .s)(p:(a.nt C.N).tree.many<=1500)(u:TreeAt w B a)(hf:a.free M) :
 ∀ W, kW w W → kC 62 #[vP C.mb, vP a.b, vI sc, .agg #[.bool fr.strict, vI fr.vars]] W
   λe w'=>∃M' b k n t ev,e=.returned (.tuple #[.bool b,ag k n t,ev])/\mE C M W (D (a.nt C.N) sc fr s) w' M' b k n t ev:=
 λW g=>Calls.dres (m W M s a B sc fr d (h.below g) hI o hb hs hw p (u.bel g) hf)
def Zoe(co:zd C V b)(hV:VH V b)(h:MAt C M w s)(hI:Inv s (d+2))(hA:FAt s sc fr)(hb:b<=s.steps)(hs:s.steps<=20000)(ha:TreeAt w B a)(hf:a.free M)
 {x y o:ATree}(hk:a.kids=[x,y])(hx:x.kids=[o])(fV:x.kind≠23)(wo:(o.nt C.N).wf .v)(wy:(y.nt C.N).wf .v)(mo:(o.nt C.N).tree.many<=1500)(my:(y.nt C.N).tree.many<=1500) :
 kC 122 #[vP C.mb,a.ptr,vI sc,.agg #[.bool fr.strict,vI fr.vars]] w λe w'=>bK C M w (vu V (a.nt C.N) sc fr s) e w':=by
 have hR:vu V (a.nt C.N) sc fr s=iC (V (o.nt C.N) sc fr) (λo=>iC (V (y.nt C.N) sc fr) λv=>if o.kind=5 then λs=>ga v (s.put o.n x.text v false)else va xn) s:=by
  have e0:(a.nt C.N).kid 0=x.nt C.N:=xX RJ;have e1:(a.nt C.N).kid 1=y.nt C.N:=xX RJ;have e2:(x.nt C.N).kid 0=o.nt C.N:=xX (by rw[hx];rfl);unfold vu;rw[e0,Za,Y3 fV,e1,e2,sw]
 obtain⟨R,aS⟩:=zX (vu V (a.nt C.N) sc fr s)
 rw[<-aS]at hR ⊢;clear aS;refine OQ ?_;intro aR lf lr ln z hz;rw[<-hz]at aR lf lr ln;refine Pq ?_;intro aE aJ;obtain⟨F,kc,c3,cB,aT,bN,aY,eZ⟩:=ha.row hf Q9;rw[hk]at c3 cB bN;have Z:x∈a.kids:=Q9
 have sB:=aJ.kid Z;have fS:=hf.kid Z;obtain⟨xg,xc,x3,dL,sm,cC,ju,vY⟩:=(ha.kid Z).row fS QG;rw[hx]at x3 dL cC;have ir:o∈x.kids:=QG
 have ez:y∈a.kids:=Q9
 have k0:=bN 0 x rfl;have k1:=bN 1 y rfl;have x0:=cC 0 o rfl;simp only[List.length_cons,List.length_nil]at c3 cB x3 dL;obtain⟨r1,bB⟩:=zX (V (o.nt C.N) sc fr s)
 have bG:=lh (co.from aE hI hA hb hs wo mo (sB.kid ir) (fS.kid ir));rw[<-bB]at bG;have am:=(hV (o.nt C.N) sc fr s _ wo mo hI hA hb hs).1;rw[<-bB]at am;unfold iC at hR;rw[<-bB]at hR;obtain⟨HR,bL,gY,pC,oU,HLR,bR,HBZ⟩:=ld hR am hA (aJ.kid ez) (hf.kid ez) lr ln aR;have bT:=ha.lt;have g9:=(ha.kid Z).lt;have AI:=(ha.kid Z).c0;have sI:=(ha.kid Z).c1
 have aq:∀W M',MFr M M' z W->vC W w.heap.size 0 (.bool fr.strict)/\vC W w.heap.size 1 (vI fr.vars)/\vC W a.b 3 (.slice (some ⟨F,0,none⟩) 2 kc)/\vC W F 0 (vP x.b)/\vC W F 1 (vP y.b)/\
  vC W x.b 3 (.slice (some ⟨xg,0,none⟩) 1 xc)/\vC W xg 0 (vP o.b)/\vC W x.b 1 (.string x.text):=λW M' f=>
  have g:MFr M M' w W:=(MFr.of_below aR).trans f;⟨(lf.fr f).cell rfl,(lf.fr f).cell rfl,(g.cell bT hf.blk).trans c3,(g.cell aY eZ).trans k0,(g.cell aY eZ).trans k1,(g.cell g9 fS.blk).trans x3,(g.cell ju vY).trans x0,(g.cell g9 fS.blk).trans sI⟩
 obtain⟨-,-,d3,e0,-,-,-,-⟩:=aq z M (.refl _ _);have dk:=(aR.cell g9).trans AI;rw[hz]at d3 e0 dk;obtain⟨HS,HZ,HM⟩:=ds aq hz aE;have bk:(x.kind==23)=false:=by simp[fV]
 have HO:=lh h.old.size;have HE:=lh aR.size;clear c3 k0 k1 x0 x3 AI sI aq hz aE lf bN cC hk hx fV bB am h hI ha aJ sB hR lr ln aR hA hf fS;unfold ATree.ptr;go_enter func122,ntmps122
 go_wp2_with fail
 rw[<-HZ.o];clear d3 e0 dk
 refine v7 (.take 0 (.take 1 (.take 2 (.take 3 (.take 4 (.take 5 (.take 6 (.take 7 (.take 8 (.two 9 (.take 10 (.take 11 (.take 12 (.go 13 (.go 14 (.go 15 (.nil))))))) 13 (.go 9 (.take 10 (.take 11 (.take 12 (.go 14 (.go 15 (.nil))))))))))))))))) 14 (λW=>vC W w.heap.size 0 (.bool fr.strict)/\vC W w.heap.size 1 (vI fr.vars)/\vC W a.b 3 (.slice (some ⟨F,0,none⟩) 2 kc)/\vC W F 0 (vP x.b)/\vC W F 1 (vP y.b)/\vC W x.b 3 (.slice (some ⟨xg,0,none⟩) 1 xc)/\vC W xg 0 (vP o.b)/\vC W x.b 1 (.string x.text)) (HS.o _ _ (MFr.drew (.refl _ _))) ?_
 refine ra ?_;refine Zu ?_;apply Te (H:=sp C w M z r1);·exact Tm HS bG HE.o HO.o
 .exact OS HS bG HM HE.o HO.o
 intro W1 p1 M1 k1 n1 t1 bQ ai;obtain⟨s1,q1⟩:=r1;cases q1 with
 |error x1=>
   refine Xp ?_;intro he au hR;simp only at hR;subst hR;obtain⟨T1,P1,rfl,hP⟩:=he.ne;have eg:=lh he;obtain⟨q0,q1,q2,z0,z1,z2⟩:=(HLR.o.fr ai.1.2.1).six;obtain⟨n0,MK,U,-,-,-⟩:=(bR.o.fr ai.1.2.1).six;clear ai he HR;go_wp2;refine Yp (v:=.tuple #[.agg #[vI 0,vI 0,.string ⟨#[]⟩],.iface T1 (.pointer P1)]) ?_ rfl ?_;·exact S8
   .exact .err HLR.o HBZ.o au.o.1.1 au.o.1.2.1 eg.o
 |ok v1=>
   obtain⟨rfl,rfl⟩:v1=⟨k1,n1,t1⟩/\bQ=.nilIface:=ai.1.2.2;obtain⟨i1,x1,-,eo,i2⟩:=bL.o;have F1:=ai.1.2.1;have vZ:=ai.1.1;have ty:=F1.tree pC.o oU.o;have hst:=x1.steps;obtain⟨r2,hr2⟩:=zX (V (y.nt C.N) sc fr s1)
   have bS:=lh (co.from vZ i1 (gY.o.ext x1) (Int.le_trans hb hst) i2 wy my ty.1 ty.2);rw[<-hr2]at bS;have bF:=lh (show Fin s1 _ VQ r2 by rw[hr2];exact(hV (y.nt C.N) sc fr s1 _ wy my i1 (gY.o.ext x1) (Int.le_trans hb hst) i2).1);have hR:=HR.o;simp only at hR;rw[<-hr2]at hR;obtain⟨cH,bD,au,bX,eg,ML⟩:=gw (λW M' (f:MFr M1 M' W1 W)=>HS.o W M' (F1.trans f)) hR ai vZ (Y4 HE.o F1.size) eo;clear ai F1 vZ ty hr2 hR HR x1 i1 i2 hst eo;go_wp2_with fail
   refine v7 (.take 0 (.take 1 (.take 2 (.take 3 (.take 4 (.take 5 (.take 6 (.take 7 (.take 8 (.two 9 (.take 10 (.take 11 (.take 12 (.go 13 (.go 14 (.go 15 (.nil))))))) 13 (.go 9 (.take 10 (.take 11 (.take 12 (.go 14 (.go 15 (.nil))))))))))))))))) 14 (λW=>vC W w.heap.size 0 (.bool fr.strict)/\vC W w.heap.size 1 (vI fr.vars)/\vC W a.b 3 (.slice (some ⟨F,0,none⟩) 2 kc)/\vC W F 0 (vP x.b)/\vC W F 1 (vP y.b)/\vC W x.b 3 (.slice (some ⟨xg,0,none⟩) 1 xc)/\vC W xg 0 (vP o.b)/\vC W x.b 1 (.string x.text)) (cH.o _ _ (MFr.drew (.refl _ _))) ?_
   refine ra ?_;refine Zu ?_;apply Te (H:=sp C w M1 W1 r2);·exact Tm cH bS eg.o HO.o
   .exact Zzv cH bS bX eg.o HO.o
   intro W2 p2 M2 k2 U t2 nN I;obtain⟨s2,q2⟩:=r2;have F2:=I.1.2.1;have O:=au.o.1.2.1.trans F2;cases q2 with
   |error x2=>
     have he:ax C M2 W2 x2 nN:=I.1.2.2;have aP:=lh I;have hR:=bD.o;simp only at hR;subst hR;obtain⟨T1,P1,rfl,hP⟩:=he.ne;have nP:=lh he;obtain⟨q0,q1,q2,z0,z1,z2⟩:=(HLR.o.fr O).six;obtain⟨m0,m1,m2,-,-,-⟩:=(bR.o.fr O).six;have J:=lh O;clear I he bD F2 O;go_wp2;refine Yp (v:=.tuple #[.agg #[vI 0,vI 0,.string ⟨#[]⟩],.iface T1 (.pointer P1)]) ?_ rfl ?_;·exact S8
     .exact .err HLR.o HBZ.o aP.o.1.1 J.o nP.o
   |ok v2=>
     obtain⟨rfl,rfl⟩:v2=⟨k2,U,t2⟩/\nN=.nilIface:=I.1.2.2;obtain⟨i1,x2,-,CY,i2⟩:=bF.o;have hR:=bD.o;simp only at hR;obtain⟨c0,c1,c2,-,-,-⟩:=(au.o.2.fr F2).six;obtain⟨q0,q1,q2,z0,z1,z2⟩:=(HLR.o.fr O).six;obtain⟨m0,m1,m2,-,-,-⟩:=(bR.o.fr O).six;obtain⟨g0,g1,g2,-,-,-⟩:=I.2.six;have aO:=I.1.1;obtain⟨yf,oN,J,bc,gS,bU,HR⟩:=kF x2 i1 O F2 I.2 aO hR;obtain⟨-,-,-,-,-,-,-,xt⟩:=cH.o W2 M2 F2;clear I bD F2 O x2 i1 i2 CY hR aO
     by_cases h5:k1=5
     .subst h5;have pM:=ML.o.2.2.2.2 rfl;have HC:=lh (Zhk (H:=s2.H) (n:=n1) (name:=x.text) (v:=⟨k2,U,t2⟩) (fx:=false) pM.1 (Int.lt_of_lt_of_le pM.2 (by have :=yf.o.lo;exact Int.ofNat_le.2 this)));have hp:=zG bU.o.drew oN.o n1 x.text ⟨k2,U,t2⟩ false;rw[HC.o]at hp;rw[show cL 0= .nilIface from rfl]at hp;simp only[LVal.agg]at hp;have HP:=lh hp;clear hp pM;go_wp2_with fail
      have iF:=lh (show∀u M',MFr M2 M' W2 u->vC u p2 0 (vI k2)/\vC u p2 1 (vI U)/\vC u p2 2 (.string t2)/\vC u p1 1 (vI n1)/\vC u x.b 1 (.string x.text)from
       λu M' f=>⟨(gS.o.fr f).cell rfl,(gS.o.fr f).cell rfl,(gS.o.fr f).cell rfl,((au.o.2.fr bc.o).fr f).cell rfl,(cH.o u M' (bc.o.trans f)).2.2.2.2.2.2.2⟩)
      refine o4 [(true,0),(true,1),(true,2),(true,3),(true,4),(true,5),(true,6),(true,7),(true,8),(true,9),(true,10),(false,11)] [12,13] (λW=>vC W p2 0 (vI k2)/\vC W p2 1 (vI U)/\vC W p2 2 (.string t2)/\vC W p1 1 (vI n1)/\vC W x.b 1 (.string x.text)) ⟨g0,g1,g2,c1,xt⟩ (λbw=>?_);refine iB ?_;intro K hK;refine HP.o.mono ?_;rintro e W3⟨rfl,M3,dE,bh⟩;have p:=(MFr.drew (.refl M2 W2)).trans bh
      refine hK _ _ (iF.o _ _ p) ?_;clear hK K q0 q1 q2 z0 z1 z2 m0 m1 m2 g0 g1 g2 c0 c1 c2 xt;obtain⟨q0,q1,q2,z0,z1,z2⟩:=(HLR.o.fr (J.o.trans p)).six;have dH:=lh dE;have bP:=lh (J.o.trans p);clear dE bh p;refine Z1 ?_;have hR:=HR.o;simp only[if_true,ga]at hR;subst hR;go_wp2;refine Yp (v:=.tuple #[.agg #[vI k2,vI U,.string t2],.nilIface]) ?_ rfl ?_;·exact S8
      .exact .fine HLR.o HBZ.o dH.o bP.o
     .have b5:(k1 !=5)=true:=by simp[h5]
      have HP:=lh (LW bU.o.drew xn)
      have iF:=lh (show∀u M',MFr M2 M' W2 u->vC u (w.heap.size+1+1) 0 (vI 0)/\vC u (w.heap.size+1+1) 1 (vI 0)/\vC u (w.heap.size+1+1) 2 (.string ⟨#[]⟩)from
       λu M' f=>⟨(bR.o.fr (J.o.trans f)).cell rfl,(bR.o.fr (J.o.trans f)).cell rfl,(bR.o.fr (J.o.trans f)).cell rfl⟩)
      have MM:=lh h5;clear h5;go_wp2_with fail
      refine ZD ?_;intro bw;refine iB ?_;intro K hK;refine HP.o.mono ?_;rintro e W3⟨fj,rfl,j9,Y⟩;have p:MFr M2 M2 W2 W3:=(MFr.drew (.refl M2 W2)).trans (.of_below Y);refine hK _ _ (iF.o _ _ p) ?_;clear hK K q0 q1 q2 z0 z1 z2 m0 m1 m2 g0 g1 g2 c0 c1 c2 xt;obtain⟨q0,q1,q2,z0,z1,z2⟩:=(HLR.o.fr (J.o.trans p)).six;obtain⟨dH,bP,iS⟩:=ds (bU.o.drew.below Y) (J.o.trans p) j9;clear p j9 Y;refine Z1 ?_;have hR:=HR.o;simp only[MM.o,if_false,va,uC]at hR;subst hR;go_wp2
      refine Yp (v:=.tuple #[.agg #[vI 0,vI 0,.string ⟨#[]⟩],fj]) ?_ rfl ?_;·exact S8
      .exact Zsl
end
open Go.Extern.Stop Go.Stop Go.Extern
def Uc(t:Addr)(w:kV):(ReflectliteValue.unpack (.iface 59 (.pointer (some t)))).run Tryz.prog w
 = .ok (.agg #[.pointer (some ⟨8,59,none⟩),vP w.heap.size,.int .u64 150]) (w.alloc (.cells #[.pointer (some t)] 59)):=by kernel_rfl
def XX(a:Addr)(w:kV):(ReflectliteValue.methodAny (ReflectliteValue.valueError "reflectlite.Value.Type" 0) (λt _ _ _=>ReflectliteType.toType t) #[.agg #[.pointer (some ⟨8,59,none⟩),.pointer (some a),.int .u64 150]]).run Tryz.prog w
 = .ok (.iface 166 (.agg #[.pointer (some ⟨8,59,none⟩)])) w:=by kernel_rfl
theorem Tb(h:Value)(w:kV):(Go.method 371 166 (.agg #[h]) "Kind").run Tryz.prog w= .ok (181,h) w:=by kernel_rfl
theorem YK(w:kV):((ReflectliteType.abiMethod λt=>(λa:Nat=>Value.int IntKind.u8 (a:Int))<$>Rtype.kind t) #[.pointer (some ⟨8,59,none⟩)]).run Tryz.prog w=.ok (.int .u8 22) w:=by kernel_rfl
theorem YT(w:kV):((ReflectliteType.abiMethod λt=>(λa:Nat=>Value.int IntKind.u8 (a:Int))<$>Rtype.kind t) #[.pointer (some ⟨8,35,none⟩)]).run Tryz.prog w=.ok (.int .u8 2) w:=by kernel_rfl
def rlm(z:Sem Value)(f:TypeId->Addr->Nat->Nat->Sem Value)(v:Value) :
 ReflectliteValue.method z f #[v]=(do match<-ReflectliteValue.parts v with|none=>z|some (t,a,fl)=>f t a fl (fl %32)):=rfl
theorem Ty(a:Addr)(w:kV):(ReflectliteValue.parts (.agg #[.pointer (some ⟨8,59,none⟩),.pointer (some a),.int .u64 150])).run Tryz.prog w=.ok (some (59,a,150)) w:=by kernel_rfl
def VS(a p:Addr)(W:kV)(g:W.cell? a=some (.pointer (some p))) :
 (ReflectliteValue.method (ReflectliteValue.valueError "reflectlite.Value.IsNil" 0) ReflectliteValue.isNil #[.agg #[.pointer (some ⟨8,59,none⟩),.pointer (some a),.int .u64 150]]).run Tryz.prog W= .ok (.bool false) W:=by
 rw[rlm];simp only[Sem.run_bind,Ty,Result.andThen];simp[ReflectliteValue.isNil,loadVar,isAgg,underlying,underlying59,g,Result.andThen]
theorem Ta(h:Value)(w:kV):(Go.method 371 166 (.agg #[h]) "Elem").run Tryz.prog w= .ok (196,.agg #[h]) w:=by kernel_rfl
theorem wL(h:Value)(w:kV):(Go.method 371 166 (.agg #[h]) "Implements").run Tryz.prog w= .ok (197,.agg #[h]) w:=by kernel_rfl
theorem te(h:Value)(w:kV):(Go.method 371 166 (.agg #[h]) "AssignableTo").run Tryz.prog w= .ok (194,.agg #[h]) w:=by kernel_rfl
theorem YN(w:kV):(ReflectliteType.method ReflectliteType.elem #[.agg #[.pointer (some ⟨8,59,none⟩)]]).run Tryz.prog w=.ok (.iface 166 (.agg #[.pointer (some ⟨8,35,none⟩)])) w:=by kernel_rfl
theorem Ga(w:kV):(ReflectliteType.relation "Implements" ReflectliteType.implements_ #[.agg #[.pointer (some ⟨8,35,none⟩)],.iface 166 (.agg #[.pointer (some ⟨8,32,none⟩)])]).run Tryz.prog w= .ok (.bool true) w:=by kernel_rfl
theorem UA(v:Value)(w:kV):(ReflectliteType.typeOf #[.iface 35 v]).run Tryz.prog w=.ok (.iface 166 (.agg #[.pointer (some ⟨8,35,none⟩)])) w:=by kernel_rfl
theorem II(w:kV):(ReflectliteType.relation "AssignableTo" ReflectliteType.assignableTo #[.agg #[.pointer (some ⟨8,35,none⟩)],.iface 166 (.agg #[.pointer (some ⟨8,35,none⟩)])]).run Tryz.prog w= .ok (.bool true) w:=by kernel_rfl
def Ua(e:Int)(w:kV):(ReflectliteValue.unpack (.iface 35 (vI e))).run Tryz.prog w
 = .ok (.agg #[.pointer (some ⟨8,35,none⟩),vP w.heap.size,.int .u64 130]) (w.alloc (.cells #[vI e] 35)):=by kernel_rfl
theorem UR(w:kV):(Rtype.elem? 59).run Tryz.prog w=.ok (some 35) w:=by kernel_rfl
theorem AcE(p:Addr)(w:kV):(ReflectliteValue.mk 35 p ReflectliteValue.flagAddr).run Tryz.prog w=.ok (.agg #[.pointer (some ⟨8,35,none⟩),.pointer (some p),.int .u64 386]) w:=by kernel_rfl
def VN(a p:Addr)(W:kV)(g:W.cell? a=some (.pointer (some p))) :
 (ReflectliteValue.method (ReflectliteValue.valueError "reflectlite.Value.Elem" 0) ReflectliteValue.elem #[.agg #[.pointer (some ⟨8, 59, none⟩), .pointer (some a), .int .u64 150]]).run Tryz.prog W
  = .ok (.agg #[.pointer (some ⟨8,35,none⟩),.pointer (some p),.int .u64 386]) W:=by
 rw[rlm];simp only[Sem.run_bind,Ty,Result.andThen];simp[ReflectliteValue.elem,loadVar,isAgg,underlying,underlying59,g,Result.andThen,UR,AcE]
def rls(v x:Value):ReflectliteValue.set #[v,x]=(do
 let(some (dst,a,fl),some (oD,b,_)):=(<-ReflectliteValue.parts v,<-ReflectliteValue.parts x)
  |unsupported (.noEntry "extern/(internal/reflectlite.Value).Set.zeroValue")
 if fl/ReflectliteValue.flagAddr %2==0 then unsupported (.noEntry "extern/(internal/reflectlite.Value).Set.unaddressable")
 let val <-loadVar oD b
 if<-Rtype.directlyAssignable dst oD then storeVar dst a val
 else if<-Rtype.implements dst oD then
  if(<-Rtype.kind oD)==20 then
   match val with
   | .nilIface=>unsupported (.noEntry "extern/reflectlite: a nil value of one interface type handed on as a value of another")
   |_=>storeVar dst a val
  else storeVar dst a (.iface oD val)
 else panicString ("reflectlite.Set: value of type " ++(<-Rtype.spelt oD)++ " is not assignable to type " ++(<-Rtype.spelt dst))
 pure (.tuple #[])):=rfl
theorem U7(a:Addr)(w:kV):(ReflectliteValue.parts (.agg #[.pointer (some ⟨8,35,none⟩),.pointer (some a),.int .u64 386])).run Tryz.prog w=.ok (some (35,a,386)) w:=by kernel_rfl
theorem VE(a:Addr)(w:kV):(ReflectliteValue.parts (.agg #[.pointer (some ⟨8,35,none⟩),.pointer (some a),.int .u64 130])).run Tryz.prog w=.ok (some (35,a,130)) w:=by kernel_rfl
theorem UX(w:kV):(Rtype.directlyAssignable 35 35).run Tryz.prog w=.ok true w:=by kernel_rfl
def Aba(g b:Addr)(e:Int)(old:Value)(W:kV)(hb:W.cell? b=some (vI e))(ht:W.cell? g=some old)(hf:W.frozen? g=false) :
 (ReflectliteValue.set #[.agg #[.pointer (some ⟨8, 35, none⟩), .pointer (some g), .int .u64 386], .agg #[.pointer (some ⟨8, 35, none⟩), .pointer (some b), .int .u64 130]]).run Tryz.prog W
  = .ok (.tuple #[]) (W.setCell g (vI e)):=by
 rw[rls];simp only[Sem.run_bind,U7,VE,Result.andThen];simp[ReflectliteValue.flagAddr,loadVar,isAgg,underlying,underlying35,hb,Result.andThen,UX,storeVar,Value.cells,storeCells,Addr.add];rw[run_store Tryz.prog W g _ _ Qt];simp[ht,hf]
def Zyr(e:Int)(t:Addr)(old:Value)(w:kV)(hg:w.cell? ⟨1,0,none⟩=some (.iface 166 (.agg #[.pointer (some ⟨8,32,none⟩)])))(Co:w.cell? t=some old)(m:w.frozen? t=false) :
 kC 16 #[.iface 35 (vI e),.iface 59 (.pointer (some t))] w λev w'=>ev=.returned (.bool true)/\w'=((((w.alloc (.cells #[.pointer (some t)] 59)).alloc (.cells #[.pointer (some ⟨8,59,none⟩),vP w.heap.size,.int .u64 150] 112)).alloc (.cells #[.pointer (some ⟨8,59,none⟩),vP w.heap.size,.int .u64 150] 112)).alloc (.cells #[vI e] 35)).setCell t (vI e):=by
 refine AaD ?_;intro h6 h7 h8 qU lU xA lj DE DG xB;have o:=UA;have p:=te;have u:=II;have y:=Ua;have F:=Uc;have I:=XX;have J:=Tb;have O:=Ta;have U:=wL;have X:=YK;have Y:=YT;have Z:=YN;have MR:=Ga
 have n8:=VS ⟨w.heap.size,0,none⟩ t ((w.alloc (.cells #[.pointer (some t)] 59)).alloc (.cells #[.pointer (some ⟨8,59,none⟩),vP w.heap.size,.int .u64 150] 112)) Qm;have aA:1<w.heap.size:=by
  exact Zyv
 have je:((w.alloc (.cells #[.pointer (some t)] 59)).alloc (.cells #[.pointer (some ⟨8,59,none⟩),vP w.heap.size,.int .u64 150] 112)).cell? ⟨1,0,none⟩=some (.iface 166 (.agg #[.pointer (some ⟨8,32,none⟩)])):=by
  exact Zvl
 have g:t.block<w.heap.size:=by
  exact Zvr
 have el:=VN ⟨w.heap.size,0,none⟩ t (((w.alloc (.cells #[.pointer (some t)] 59)).alloc (.cells #[.pointer (some ⟨8,59,none⟩),vP w.heap.size,.int .u64 150] 112)).alloc (.cells #[.pointer (some ⟨8,59,none⟩),vP w.heap.size,.int .u64 150] 112)) (by rw[World.cell?_alloc_lt _ _ ⟨w.heap.size,0,none⟩ QI];simp)
 have st:=Aba t ⟨w.heap.size+1+1+1,0,none⟩ e old ((((w.alloc (.cells #[.pointer (some t)] 59)).alloc (.cells #[.pointer (some ⟨8,59,none⟩),vP w.heap.size,.int .u64 150] 112)).alloc (.cells #[.pointer (some ⟨8,59,none⟩),vP w.heap.size,.int .u64 150] 112)).alloc (.cells #[vI e] 35))
  (by rw[World.cell?_alloc_at _ _ _ _ Qm];rfl)
  (by rw[World.cell?_alloc_lt _ _ t QI,World.cell?_alloc_lt _ _ t QI,World.cell?_alloc_lt _ _ t QI,World.cell?_alloc_lt _ _ t g];exact Co)
  (by rw[World.frozen?_alloc_old _ _ t QI,World.frozen?_alloc_old _ _ t QI,World.frozen?_alloc_old _ _ t QI,World.frozen?_alloc_old _ _ t (Nat.ne_of_lt g)];exact m)
 exact Zwd
def Tk(w:kV):Prop:=w.cell? ⟨1,0,none⟩=some (.iface 166 (.agg #[.pointer (some ⟨8,32,none⟩)]))
def Tk.lt{w:kV}(h:Tk w):1<w.heap.size:=by
 rcases Nat.lt_or_ge 1 w.heap.size with g|g;·exact g
 .simp[Tk,World.cell?,Array.getElem?_eq_none g]at h
theorem Tk.below{w w':kV}(h:Tk w)(g:kW w w'):Tk w':=(g.cell (p:=⟨1,0,none⟩) h.lt).trans h
def Zdo(w:kV)(c:Int)(g:Tk w) :
 kC 8 #[cL c] w λe w'=>e=.returned (vI c)/\kW w w':=by
 by_cases hc:c=0
 .subst hc;simp only[cL,if_true];go_enter func8,ntmps8
  go_wp2;go_ret;exact⟨rfl,Y2 _ _⟩
 .simp only[cL,if_neg hc];have y:=g.lt;have o:=lh (Zyr c ⟨w.heap.size,0,none⟩ (vI 0) (w.alloc (.cells #[vI 0] 35)) ((Zb (p:=⟨1,0,none⟩) y).trans g) (Ys _ _ _ 0) (World.frozen?_alloc_new _ _ _ _));clear g;go_enter func8,ntmps8
  go_wp2_with fail
  refine o.o.mono ?_;rintro e w1⟨rfl,m⟩;have u:kW w w1:=by
   rw[m];refine Below.setCell ?_ Qm _;repeat(refine Below.alloc ?_ (by simp;try omega) _)
   exact Y2 _ _
  have hx:w1.cell? ⟨w.heap.size,0,none⟩=some (vI c):=by
   rw[m];rw[World.cell?_setCell_same'];rw[Zb QI,Zb QI,Zb QI,Zb Qm];rw[Ys];rfl
  have F:=lh u;clear u m o;go_wp2;go_ret;exact⟨rfl,F.o⟩
section
variable {C:RCtx}{M M':MRep}{w w':kV}{s s':MSt}{B:Nat}{a:ATree}{V:VF}{D:DF}{b:Int}{sc:Int}{fr:Frm}{d:Nat}
def Inv.objLt(h:Inv s d){n:Int}(g:0<=s.H.objectOf n):s.H.objectOf n<s.H.objects.length:=by
 unfold LHeap.objectOf at g ⊢;rcases hs:s.H.scope? n with _|c;·rw[hs]at g;exact absurd g Qg
 .obtain⟨m,rfl,o⟩:=LHeap.scope?_some hs;exact(h.scp c (Yd o)).2.1
theorem Zm9(r:Root s):0<=s.glob/\s.glob<s.H.objects.length:=by rw[r.glob];exact⟨by decide,by have:=r.objs;omega⟩
def Zav(oE:Tk C.w0)(h:MAt C M w s)(hI:Inv s d)(hr:Root s)(p:Int)(name:kB)(v:LVal)(fr:Frm) :
 kC 96 #[vP C.mb,vI p,.string name,v.agg,.agg #[.bool fr.strict,vI fr.vars]] w λe w'=>AcJ C M w (Uf p name v fr s) e w':=by
 obtain⟨R,aS⟩:=zX (Uf p name v fr s)
 have hR:=aS;unfold Uf at hR;rw[<-aS];clear aS;obtain⟨vk,vn,vt⟩:=v;simp only[LVal.agg];obtain⟨st,fv⟩:=fr;simp only at hR ⊢;have b1:=Z2 w (vO vk vn vt);have l1:=Lo.new (wE:=w) h (Y0 _) h.old.size #[vI vk,vI vn,.string vt] 71;have b2:=b1.trans ((Z2 (w.alloc (vO vk vn vt)) (frO ⟨st,fv⟩)).mono b1.size);have y:=l1.bel (Z2 _ (frO ⟨st,fv⟩));have Z:=Lo.new (wE:=w) (h.below b1) b1.size h.old.size #[.bool st,vI fv] 78;rw[World.size_alloc]at Z;unfold vO frO at b2;unfold vO at Z;unfold frO at y
 obtain⟨z,X⟩:=zX ((w.alloc (.cells #[vI vk,vI vn,.string vt] 71)).alloc (.cells #[.bool st,vI fv] 78))
 simp only at b2 y;rw[<-X]at b2 y Z;have dC:=lh Z;clear Z;have F:=h.below b2;have gX:=lh (MFr.of_below (M:=M) b2);have fs:vC z (w.heap.size+1) 0 (.bool st):=dC.o.cell rfl;have fl:w.heap.size+1<z.heap.size:=by rw[X];simp
 have J:=F.cell 10 (vI s.glob) Qq;obtain⟨HM,O,HI,Pr,we,HL,HH,qs⟩:=ld F X hI hr oE y (VU F p name) (λ(t:kB) W (hB:kW z W)=>LW (F.below hB) t);have pW:=lh (λ(n:Int) (hn:0<=n/\n<s.H.objects.length) W (hB:kW z W)=>by
  have hp:=zG (F.below hB) hI n name ⟨vk,vn,vt⟩ false;rw[Zhk hn.1 hn.2,show cL 0=.nilIface from rfl]at hp;simp only[LVal.agg]at hp;exact hp)
 have HS:=lh (show∀W M',MFr M M' z W->vC W w.heap.size 0 (vI vk)/\vC W w.heap.size 1 (vI vn)/\vC W w.heap.size 2 (.string vt)from
  λW M' f=>⟨(y.fr f).cell rfl,(y.fr f).cell rfl,(y.fr f).cell rfl⟩)
 by_cases hc:p<0\/s.H.has p name=false
 ·rw [Y5 hc] at hR;have cS:decide (p < 0)=true∨decide (p < 0)=false∧s.H.has p name=false:=by
   by_cases u:p<0;·exact .inl (decide_eq_true u)
   .exact .inr ⟨decide_eq_false u,hc.resolve_left u⟩
  cases st
  .simp only[Bool.false_eq_true,if_false]at hR;obtain⟨g,cX⟩:=zX s.glob
   obtain⟨o,ho⟩:=zX (s.H.objectOf p)
   have jJ:0<=g/\g<s.H.objects.length:=by rw[cX];exact Zm9 hr
   have yg:0<=o->o<s.H.objects.length:=λu=>by rw[ho]at u ⊢;exact hI.objLt u
   have HO:=lh (λW (hB:kW z W)=>Z6b (F.below hB).heap p);rw[<-ho]at HO hR;rw[<-cX]at J hR;obtain⟨J6,CZ,HR⟩:=ds jJ yg hR;clear hR hc h hI hr oE X F l1 y b1 b2 cX ho jJ yg;rcases cS with I|⟨I,Y⟩
   .have d1:decide (0<=p)=false:=by simp at I ⊢;exact I
    have bD:=lh (show R=ga () (s.put g name ⟨vk,vn,vt⟩ false) by rw[HR.o,Y3 (by simp at I;omega)]);have yh:=J;rw[O.o]at yh;go_enter func96,ntmps96
    go_wp2_with fail
    rw[<-O.o];clear yh;refine o4 [(true,0),(true,1),(true,2),(true,3),(true,4),(true,5)] [6,7] (λW=>vC W w.heap.size 0 (vI vk)/\vC W w.heap.size 1 (vI vn)/\vC W w.heap.size 2 (.string vt)) (HS.o _ _ (.drew (.refl _ _))) (λbw=>?_);refine pU ?_;refine Z1 ?_;go_wp2_with fail
    refine(pW.o g J6.o _ (Zd _)).mono ?_;rintro e w3⟨rfl,M3,h3,f3⟩;have H3:=lh h3;have bP:=lh (gX.o.trans (MFr.trans (.drew (.refl _ _)) f3));clear h3 f3;go_wp2;go_ret;rw[bD.o];exact⟨M3,H3.o,bP.o,rfl⟩
   .rw[Y]at HH;have d1:decide (0<=p)=true:=by simp at I ⊢;exact I
    by_cases u:0<=o
    .have d2:decide (0<=o)=true:=decide_eq_true u;have bD:=lh (show R=ga () (s.put o name ⟨vk,vn,vt⟩ false) by rw[HR.o,Y5 ⟨by simp at I;omega,u⟩]);have HN:=lh (show 0<=o/\o<s.H.objects.length from⟨u,CZ.o u⟩);clear u;go_enter func96,ntmps96
     go_wp2_with fail
     rw[<-O.o];refine Zpf ?_;intro w1 aQ xE;have mJ:=(aQ.cell HM.o.mbLt).trans J;have au:=lh aQ;clear aQ fs J;go_wp2_with fail
     refine(HO.o w1 au.o).mono ?_;rintro e w2⟨rfl,rfl⟩;go_wp2_with fail
     refine(HO.o w2 au.o).mono ?_;rintro e w3⟨rfl,rfl⟩;go_wp2_with fail
     refine YO ?_;intro bw;go_wp2_with fail
     refine(pW.o o HN.o _ au.o.drew).mono ?_;exact Zwv
    .have d2:decide (0<=o)=false:=decide_eq_false u;have bD:=lh (show R=ga () (s.put g name ⟨vk,vn,vt⟩ false) by rw[HR.o,Y3 (λe=>u e.2)]);clear u;go_enter func96,ntmps96
     go_wp2_with fail
     rw[<-O.o];refine Zpf ?_;intro w1 aQ xE;have mJ:=(aQ.cell HM.o.mbLt).trans J;have au:=lh aQ;clear aQ fs J;go_wp2_with fail
     refine(HO.o w1 au.o).mono ?_;rintro e w2⟨rfl,rfl⟩;go_wp2_with fail
     refine YO ?_;intro bw;go_wp2_with fail
     refine(pW.o g J6.o _ au.o.drew).mono ?_;exact Zwv
  .simp only[if_true]at hR;have HR:=lh hR;clear hR hc h hI hr oE X F l1 y b1 b2;rcases cS with I|⟨I,Y⟩
   .go_enter func96,ntmps96
    go_wp2_with fail
    rw[<-O.o];refine(qs.o T8 _ (Y2 _ _)).mono ?_;rintro e w1⟨ev,rfl,he,aQ⟩;have au:=lh aQ;have HE:=lh he;clear aQ he;go_wp2;go_ret;rw[HR.o];exact⟨M,HM.o.below au.o,gX.o.trans (.of_below au.o),ev,rfl,HE.o⟩
   .rw[Y]at HH;go_enter func96,ntmps96
    go_wp2_with fail
    rw[<-O.o];refine Zpf ?_;intro w1 aQ xE;have au:=lh aQ;clear aQ fs J;go_wp2_with fail
    refine(qs.o T8 _ au.o).mono ?_;rintro e w2⟨ev,rfl,he,ar⟩;have aP:=zT au ar;have HE:=lh he;clear ar he;go_wp2;go_ret;rw[HR.o];exact⟨M,HM.o.below aP.o,gX.o.trans (.of_below aP.o),ev,rfl,HE.o⟩
 .rw[Y3 hc]at hR;have I:decide (p<0)=false:=decide_eq_false (λe=>hc (.inl e));have Y:s.H.has p name=true:=by
   cases hq:s.H.has p name;·exact absurd (.inr hq) hc
   .rfl
  rw[Y]at HH;have hw:=λW (hB:kW z W)=>Zf2 (F.below hB) hI p name ⟨vk,vn,vt⟩;simp only[LVal.agg]at hw;obtain⟨m,gj⟩:=zX ((s.H.write p name ⟨vk,vn,vt⟩).2)
  rw[<-gj]at hw hR;have HW:=lh hw;have HR:=lh hR;clear hR hc h hI hr oE X F l1 y b1 b2 J Y hw gj;have am:(m==6)=true/\m=6\/(m==6)=false/\(m==1)=true/\m=1\/(m==6)=false/\(m==1)=false/\(m==5)=true/\m=5\/(m==6)=false/\(m==1)=false/\(m==5)=false:=by
   simp only[beq_iff_eq,beq_eq_false_iff_ne];omega
  go_enter func96,ntmps96
  go_wp2_with fail
  rw[<-O.o];refine Zpf ?_;intro w1 aQ xE;have au:=lh aQ;clear aQ fs;go_wp2_with fail
  refine YO ?_;intro bw;go_wp2_with fail
  refine(HW.o _ au.o.drew).mono ?_;rintro e w2⟨rfl,M2,h2,f2⟩;have F2:=(MFr.of_below (M:=M) au.o.drew).trans f2;have J7:vC w2 (w.heap.size+1) 0 (.bool st):=(dC.o.fr F2).cell rfl;obtain⟨HT,H2,bc⟩:=ds (Zdo w2 m (we.o.below (h2.old))) h2 F2;clear h2 f2 F2 xE;go_wp2_with fail
  refine HT.o.mono ?_;rintro e w3⟨rfl,U⟩;have HB3:=lh U;have Ps:=(U.cell (Y7 fl bc.o.size)).trans J7;clear U J7;rcases am with⟨d6,rfl⟩|⟨d6,d1,rfl⟩|⟨d6,d1,d5,rfl⟩|⟨d6,d1,d5⟩
  .have HQ:=lh (LW (H2.o.below HB3.o) T8);exact ZQ
  .have HQ:=lh (LW (H2.o.below HB3.o) xn);exact ZQ
  .cases st
   .go_wp2;go_ret;have hR:=HR.o;simp[ga]at hR;exact Zvh
   .have HQ:=lh (LW (H2.o.below HB3.o) xn);exact ZQ
  .have HD:=lh (show¬m=6/\¬m=1/\¬m=5 from⟨by simpa using d6,by simpa using d1,by simpa using d5⟩);go_wp2;go_ret;have hR:=HR.o;rw[Y3 HD.o.1,Y3 HD.o.2.1,Y3 (λe=>HD.o.2.2 e.1)]at hR;exact Zvh
def Zmc(hC:C.Ok)(oE:Tk C.w0)(co:zd C V b)(hV:VH V b)(h:MAt C M w s)(hI:Inv s (d+2))(hA:FAt s sc fr)(hb:b<=s.steps)(hs:s.steps<=20000)(ha:TreeAt w B a)(hf:a.free M)
 {x y:ATree}(hk:a.kids=[x,y])(fV:x.kind=23)(wy:(y.nt C.N).wf .v)(my:(y.nt C.N).tree.many<=1500) :
 kC 122 #[vP C.mb,a.ptr,vI sc,.agg #[.bool fr.strict,vI fr.vars]] w λe w'=>bK C M w (vu V (a.nt C.N) sc fr s) e w':=by
 obtain⟨s1,O⟩:=zX (s.look (x.nt C.N) sc x.text)
 obtain⟨ix,ie⟩:=zX (s.H.find sc x.text)
 have hR:vu V (a.nt C.N) sc fr s=iC (V (y.nt C.N) sc fr) (λv=>iC (Uf ix x.text v fr) λ_=>ga v) s1:=by
  have e0:(a.nt C.N).kid 0=x.nt C.N:=xX RJ;have e1:(a.nt C.N).kid 1=y.nt C.N:=xX RJ;unfold vu;rw[e0,Za,Y5 fV,e1,sw,O,ie]
 obtain⟨R,aS⟩:=zX (vu V (a.nt C.N) sc fr s)
 rw[<-aS]at hR ⊢;clear aS;refine OQ ?_;intro aR lf lr ln z hz;rw[<-hz]at aR lf lr ln;refine Pq ?_;intro aE aJ;obtain⟨kg,kc,c3,cB,aT,bN,aY,eZ⟩:=ha.row hf Q9;rw[hk]at c3 cB bN;have U:x∈a.kids:=Q9
 have ez:y∈a.kids:=Q9
 have sB:=aJ.kid U;have fS:=hf.kid U;have k0:=bN 0 x rfl;have p:=bN 1 y rfl;simp only[List.length_cons,List.length_nil]at c3 cB;obtain⟨C0,I⟩:=Zda (n:=x.nt C.N) (sc:=sc) (name:=x.text) (d:=d+1) hI;rw[<-O]at C0 I;have hst:=I.steps;have wg:s1.steps<=20000:=by rw[O,Zhy.2.1];exact hs
 obtain⟨r1,bB⟩:=zX (V (y.nt C.N) sc fr s1)
 have am:=(hV (y.nt C.N) sc fr s1 _ wy my C0 (hA.ext I) (Int.le_trans hb hst) wg).1;rw[<-bB]at am;unfold iC at hR;rw[<-bB]at hR;have fK:=Zfh hC aE hI.wf hI.own sB sc x.text hI.lens.2.2.2.2.2.2.2;rw[<-ie,<-O]at fK;have oF:=lh fK;have bG:=lh (λW1 M1 (dZ:MAt C M1 W1 s1) (ty:TreeAt W1 B y/\y.free M1)=>co.from dZ C0 (hA.ext I) (Int.le_trans hb hst) wg wy my ty.1 ty.2);rw[<-bB]at bG;obtain⟨HR,bL,gY,pC,oU,HLR⟩:=gw hR am (hA.ext I) (aJ.kid ez) (hf.kid ez) lr
 obtain⟨bR,HBZ,we⟩:=ds ln aR oE;have bT:=ha.lt;have g9:=(ha.kid U).lt;have AI:=(ha.kid U).c0;have sI:=(ha.kid U).c1;have aq:∀W M',MFr M M' z W->vC W w.heap.size 0 (.bool fr.strict)/\vC W w.heap.size 1 (vI fr.vars)/\vC W a.b 3 (.slice (some ⟨kg,0,none⟩) 2 kc)/\vC W kg 1 (vP y.b)/\vC W x.b 1 (.string x.text):=λW M' f=>
  have g:MFr M M' w W:=(MFr.of_below aR).trans f;⟨(lf.fr f).cell rfl,(lf.fr f).cell rfl,(g.cell bT hf.blk).trans c3,(g.cell aY eZ).trans p,(g.cell g9 fS.blk).trans sI⟩
 have dk:=(aR.cell g9).trans AI;have d1:=(aR.cell g9).trans sI;have e0:=(aR.cell aY).trans k0;have d3:=(aR.cell bT).trans c3;rw[fV]at dk;rw[hz]at d3 e0 dk d1;obtain⟨HS,HZ,HM,HO,HE⟩:=gq aq hz aE h.old.size aR.size;clear c3 k0 p AI sI aq hz aE lf bN hk fV bB am h hI ha aJ sB hR lr ln aR hA hf fS O ie C0 I hst wg fK oE;unfold ATree.ptr at oF ⊢;go_enter func122,ntmps122
 go_wp2_with fail
 rw[<-HZ.o];clear d3 e0 dk d1;refine oF.o.mono ?_;rintro e W0⟨rfl,M0,cw,Y⟩;obtain⟨bS,ed,io,gX,rW⟩:=gq (bG.o W0 M0 cw (Y.tree pC.o oU.o)) (λW M' (f:MFr M0 M' W0 W)=>HS.o W M' (Y.trans f)) cw Y (Y4 HE.o Y.size);clear cw Y;go_wp2_with fail
 refine v7 (.take 0 (.take 1 (.take 2 (.take 3 (.take 4 (.take 5 (.take 6 (.take 7 (.take 8 (.two 9 (.take 10 (.take 11 (.take 12 (.go 13 (.go 14 (.go 15 (.nil))))))) 13 (.go 9 (.take 10 (.take 11 (.take 12 (.go 14 (.go 15 (.nil))))))))))))))))) 14 (λW=>vC W w.heap.size 0 (.bool fr.strict)/\vC W w.heap.size 1 (vI fr.vars)/\vC W a.b 3 (.slice (some ⟨kg,0,none⟩) 2 kc)/\vC W kg 1 (vP y.b)/\vC W x.b 1 (.string x.text)) (ed.o _ _ (MFr.drew (.refl _ _))) ?_
 refine ra ?_;refine Zu ?_;apply Te (H:=sp C w M0 W0 r1);·exact Tm ed bS rW.o HO.o
 .exact Zy0 ed bS io rW.o HO.o
 intro W1 J M1 p u t1 bQ ai;have F:=gX.o.trans ai.1.2.1;obtain⟨s2,q1⟩:=r1;cases q1 with
 |error x1=>
   refine Xp ?_;intro he au hR;simp only at hR;subst hR;obtain⟨T1,P1,rfl,hP⟩:=he.ne;have eg:=lh he;have bA:=lh F;obtain⟨q0,q1,q2,z0,z1,z2⟩:=(HLR.o.fr F).six;obtain⟨n0,MK,n2,-,-,-⟩:=(bR.o.fr F).six;clear ai he HR F;go_wp2;refine Yp (v:=.tuple #[.agg #[vI 0,vI 0,.string ⟨#[]⟩],.iface T1 (.pointer P1)]) ?_ rfl ?_;·exact S8
   .exact Zt4
 |ok v1=>
   obtain⟨rfl,rfl⟩:v1=⟨p,u,t1⟩/\bQ=.nilIface:=ai.1.2.2;obtain⟨i1,x1,-,eo,i2⟩:=bL.o;have hR:=HR.o;simp only at hR;have sJ:=lh (Zav we.o ai.1.1.drew i1 (gY.o.root.ext x1) ix x.text ⟨p,u,t1⟩ fr);simp only[LVal.agg]at sJ;obtain⟨g0,g1,g2,-,-,-⟩:=ai.2.six
   have cH:=lh (show∀W M',MFr M1 M' W1 W->vC W J 0 (vI p)/\vC W J 1 (vI u)/\vC W J 2 (.string t1)/\vC W x.b 1 (.string x.text)/\vC W w.heap.size 0 (.bool fr.strict)/\vC W w.heap.size 1 (vI fr.vars)from
    λW M' f=>have g:=HS.o W M' (F.trans f);⟨(ai.2.fr f).cell rfl,(ai.2.fr f).cell rfl,(ai.2.fr f).cell rfl,g.2.2.2.2,g.1,g.2.1⟩)
   have bD:=lh hR;have bA:=lh F;clear ai F hR HR x1 i1 i2 eo g0 g1 g2;go_wp2_with fail
   refine o4 [(true,0),(true,1),(true,2),(true,3),(true,4),(true,5),(true,6),(true,7),(true,8),(false,9)] [10,11] (λW=>vC W J 0 (vI p)/\vC W J 1 (vI u)/\vC W J 2 (.string t1)/\vC W x.b 1 (.string x.text)/\vC W w.heap.size 0 (.bool fr.strict)/\vC W w.heap.size 1 (vI fr.vars)) (cH.o _ _ (.drew (.refl _ _))) (λbw=>?_);refine iB ?_;intro K hK;refine sJ.o.mono ?_;rintro e W3⟨M3,dE,bh,bW⟩
   have o:=(MFr.drew (.refl M1 W1)).trans bh;obtain⟨q0,q1,q2,z0,z1,z2⟩:=(HLR.o.fr (bA.o.trans o)).six;have dH:=lh dE;have bP:=lh (bA.o.trans o);obtain⟨r3,df⟩:=zX (Uf ix x.text ⟨p,u,t1⟩ fr s2)
   rw[<-df]at bW dE dH;have hR:=bD.o;rw[<-df]at hR;obtain⟨s3,q3⟩:=r3;cases q3 with
   |error x3=>
     obtain⟨ev,rfl,he⟩:=bW;have Z:=cH.o _ _ o;refine hK _ _ Z ?_;simp only at hR;subst hR;have iS:=lh he;clear hK K dE bh o he df bD Z;refine Z1 ?_;go_wp2;refine Yp (v:=.tuple #[.agg #[vI p,vI u,.string t1],ev]) ?_ rfl ?_;·exact S8
     .exact Zsl
   |ok u3=>
     have he:e=.returned .nilIface:=bW;subst he;have Z:=cH.o _ _ o;refine hK _ _ Z ?_;simp only[ga]at hR;subst hR;clear hK K dE bh o df bD Z;refine Z1 ?_;go_wp2;refine Yp (v:=.tuple #[.agg #[vI p,vI u,.string t1],.nilIface]) ?_ rfl ?_;·exact S8
     .exact .fine HLR.o HBZ.o dH.o bP.o
end
