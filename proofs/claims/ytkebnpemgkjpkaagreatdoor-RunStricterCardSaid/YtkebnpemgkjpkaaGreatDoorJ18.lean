import Derived.Test.YtkebnpemgkjpkaaGreatDoorJ17
import Derived.RowKitTokens
set_option maxRecDepth 100000
set_option maxHeartbeats 20000000
set_option linter.all false
namespace Go.Proofs.YtkebnpemgkjpkaaGreatDoor
open Go Go.RowKit Go.Proofs.Tryz Tryz
def qa{G' G:Prop}(h:G')(i:Hid G'->G:=by
 intro HQ_
 repeat
  first
   |(refine Z57 ?_ PM PM (λw'=>?_) ?_;rotate_left;(go_simp;first|done|with_reducible rfl);simp only[Act.put,zA,zB,zC])
   |(refine Z7v ?_ PM Pz PM (λw' kI=>?_) ?_;rotate_left;((repeat(have Hr:=kI.1;replace kI:=kI.2));go_simp;first|done|with_reducible rfl);simp only[Act.put,zA,zB,zC])
 exact HQ_.o):G:=i (lh h)
def oK{G' G:Prop}(h:G')(i:Hid G'->G:=by
 intro HQ_;try simp only[TU,List.filterMap_cons,List.filterMap_nil,List.getElem?_toArray,List.getElem?_cons_zero,List.getElem?_cons_succ,Option.map_some]
 repeat
  first
   |(refine Za3 ?_ PM (λw' kI=>?_) ?_;rotate_left;((repeat(have Hr:=kI.1;replace kI:=kI.2));go_simp;first|done|with_reducible rfl);simp only[Act.put,zA,zB,zC])
   |(refine Zhg PM ?_;simp only[Act.put,zA,zB,zC])
 exact HQ_.o):G:=i (lh h)
def o4{H X:(Act->kV->Prop)->Prop}{G:Prop}(h:∀K,H K->X K)(i:Hid (∀K,H K->X K)->G:=by
 intro HQ_;refine Zq8 PM PM PM (λK hK=>?_);simp only[List.getElem_toArray,List.getElem_cons_succ,List.getElem_cons_zero];unfold Oper.wp execOp;go_simp;exact HQ_.o K hK):G:=i (lh h)
def G9{H X:(Act->kV->Prop)->Prop}{G:Prop}(h:∀K,H K->X K)(i:Hid (∀K,H K->X K)->G:=by
 intro HQ_;refine Zjq PM PM PM (λK hK=>?_);simp only[List.getElem_toArray,List.getElem_cons_succ,List.getElem_cons_zero];unfold Oper.wp execOp;go_simp;exact HQ_.o K hK):G:=i (lh h)
def SU{a b c d G:Prop}(hs:Hid a)(hc:Hid b)(he:c)(ho:d)(i:Hid a->Hid b->c->d->G:=by
 intro HS HC HE HO ca;refine o4 (λK hK=>?_);refine(HC.o _ (Zd _)).mono ?_;rintro e w1⟨M1,k,n,t,ev,rfl,hr⟩;have bz:=hr.pre (Zd _);refine hK _ _ (HS.o _ _ bz.2.1) ?_;have fY:=lh bz;clear bz hr hK K;refine UU ?_;repeat(refine o4 (λK hK=>?_);refine hK _ _ (HS.o _ _ (fY.o.2.1.trans (.of_below (Z1 _ _)))) ?_;clear hK K;try simp only[Act.put,zA,zB,zC])
 repeat(refine G9 (λK hK=>?_);refine hK _ _ ?_;clear hK K)
 refine Si ?_;have hv:=fY.o.boxA HE HO;unfold vO at hv;generalize w1.alloc (.cells #[vI k,vI n,.string t] 56)=Wg at hv ⊢;generalize w1.heap.size=p2 at hv ⊢;exact ca.o Wg p2 M1 k n t ev hv):G:=i hs hc he ho
def Oz{a b c d m G:Prop}(hs:Hid a)(hc:Hid b)(hm:Hid m)(he:c)(ho:d)(i:Hid a->Hid b->Hid m->c->d->G:=by
 intro HS HC HM HE HO ca;refine Vv ?_;intro w1 M1 k n t ev q0 q1 q2 y0 y1 y2 cE fy;repeat(refine o4 (λK hK=>?_);refine hK _ _ cE.o ?_;clear hK K;try simp only[Act.put,zA,zB,zC])
 repeat(refine G9 (λK hK=>?_);refine hK _ _ ?_;clear hK K)
 refine Si ?_;clear q0 q1 q2 y0 y1 y2;have hv:=fy.o;clear fy;generalize((w1.setCell ⟨z.heap.size,0,none⟩ (vI k)).setCell ⟨z.heap.size,1,none⟩ (vI n)).setCell ⟨z.heap.size,2,none⟩ (.string t)=Wg at hv ⊢;generalize z.heap.size=p2 at hv ⊢;exact ca.o Wg p2 M1 k n t ev hv):G:=i hs hc hm he ho
def WH{a b c d m G:Prop}(hs:Hid a)(hc:Hid b)(hm:Hid m)(he:c)(ho:d)(i:Hid a->Hid b->Hid m->c->d->G:=by
 intro HS HC HM HE HO ca;refine Vv ?_;intro w1 M1 k n t ev q0 q1 q2 y0 y1 y2 cE fy;repeat(refine o4 (λK hK=>?_);refine hK _ _ cE.o ?_;clear hK K;try simp only[Act.put,zA,zB,zC])
 repeat(refine G9 (λK hK=>?_);refine hK _ _ ?_;clear hK K)
 refine Si ?_;clear q0 q1 q2 y0 y1 y2;have hv:=fy.o;clear fy;generalize((w1.setCell ⟨W0.heap.size,0,none⟩ (vI k)).setCell ⟨W0.heap.size,1,none⟩ (vI n)).setCell ⟨W0.heap.size,2,none⟩ (.string t)=Wg at hv ⊢;generalize W0.heap.size=p2 at hv ⊢;exact ca.o Wg p2 M1 k n t ev hv):G:=i hs hc hm he ho
def Zxs{a b c d m G:Prop}(hs:Hid a)(hc:Hid b)(hm:Hid m)(he:c)(ho:d)(i:Hid a->Hid b->Hid m->c->d->G:=by
 intro HS HC HM HE HO ca;refine Vv ?_;intro w1 M1 k n t ev q0 q1 q2 y0 y1 y2 cE fy;repeat(refine o4 (λK hK=>?_);refine hK _ _ cE.o ?_;clear hK K;try simp only[Act.put,zA,zB,zC])
 repeat(refine G9 (λK hK=>?_);refine hK _ _ ?_;clear hK K)
 refine Si ?_;clear q0 q1 q2 y0 y1 y2;have hv:=fy.o;clear fy;generalize((w1.setCell ⟨W1.heap.size,0,none⟩ (vI k)).setCell ⟨W1.heap.size,1,none⟩ (vI n)).setCell ⟨W1.heap.size,2,none⟩ (.string t)=Wg at hv ⊢;generalize W1.heap.size=p2 at hv ⊢;exact ca.o Wg p2 M1 k n t ev hv):G:=i hs hc hm he ho
def Zys{a b c d m G:Prop}(hs:Hid a)(hc:Hid b)(hm:Hid m)(he:c)(ho:d)(i:Hid a->Hid b->Hid m->c->d->G:=by
 intro HS HC HM HE HO ca;refine Vv ?_;intro w1 M1 k n t ev q0 q1 q2 y0 y1 y2 cE fy;repeat(refine o4 (λK hK=>?_);refine hK _ _ cE.o ?_;clear hK K;try simp only[Act.put,zA,zB,zC])
 repeat(refine G9 (λK hK=>?_);refine hK _ _ ?_;clear hK K)
 refine Si ?_;clear q0 q1 q2 y0 y1 y2;have hv:=fy.o;clear fy;generalize((w1.setCell ⟨wr.heap.size,0,none⟩ (vI k)).setCell ⟨wr.heap.size,1,none⟩ (vI n)).setCell ⟨wr.heap.size,2,none⟩ (.string t)=Wg at hv ⊢;generalize wr.heap.size=p2 at hv ⊢;exact ca.o Wg p2 M1 k n t ev hv):G:=i hs hc hm he ho
def kDA{a b c d G:Prop}(hs:Hid a)(hc:Hid b)(he:c)(ho:d)(i:Hid a->Hid b->c->d->G:=by
 intro HS HC HE HO ca;refine o4 (λK hK=>?_);refine(HC.o _ (Zd _)).mono ?_;rintro e w1⟨M1,b,k,n,t,ev,rfl,hr⟩;have bz:=hr.pre (Zd _);refine hK _ _ (HS.o _ _ bz.2.1) ?_;have fY:=lh bz;clear bz hr hK K;refine UU ?_;repeat(refine o4 (λK hK=>?_);refine hK _ _ (HS.o _ _ (fY.o.2.1.trans (.of_below (Z1 _ _)))) ?_;clear hK K;try simp only[Act.put,zA,zB,zC])
 repeat(refine G9 (λK hK=>?_);refine hK _ _ ?_;clear hK K)
 refine Si ?_;have hv:=fY.o.boxA HE HO;unfold vO at hv;generalize w1.alloc (.cells #[vI k,vI n,.string t] 56)=Wg at hv ⊢;generalize w1.heap.size=p2 at hv ⊢;exact ca.o Wg p2 M1 b k n t ev hv):G:=i hs hc he ho
def Ac2{a b c d m G:Prop}(hs:Hid a)(hc:Hid b)(hm:Hid m)(he:c)(ho:d)(i:Hid a->Hid b->Hid m->c->d->G:=by
 intro HS HC HM HE HO ca;refine VJ ?_;intro w1 M1 b k n t ev q0 q1 q2 y0 y1 y2 cE fy;repeat(refine o4 (λK hK=>?_);refine hK _ _ cE.o ?_;clear hK K;try simp only[Act.put,zA,zB,zC])
 repeat(refine G9 (λK hK=>?_);refine hK _ _ ?_;clear hK K)
 refine Si ?_;clear q0 q1 q2 y0 y1 y2;have hv:=fy.o;clear fy;generalize((w1.setCell ⟨z.heap.size,0,none⟩ (vI k)).setCell ⟨z.heap.size,1,none⟩ (vI n)).setCell ⟨z.heap.size,2,none⟩ (.string t)=Wg at hv ⊢;generalize z.heap.size=p2 at hv ⊢;exact ca.o Wg p2 M1 b k n t ev hv):G:=i hs hc hm he ho
def Acs{a b c d m G:Prop}(hs:Hid a)(hc:Hid b)(hm:Hid m)(he:c)(ho:d)(i:Hid a->Hid b->Hid m->c->d->G:=by
 intro HS HC HM HE HO ca;refine VJ ?_;intro w1 M1 b k n t ev q0 q1 q2 y0 y1 y2 cE fy;repeat(refine o4 (λK hK=>?_);refine hK _ _ cE.o ?_;clear hK K;try simp only[Act.put,zA,zB,zC])
 repeat(refine G9 (λK hK=>?_);refine hK _ _ ?_;clear hK K)
 refine Si ?_;clear q0 q1 q2 y0 y1 y2;have hv:=fy.o;clear fy;generalize((w1.setCell ⟨W2.heap.size,0,none⟩ (vI k)).setCell ⟨W2.heap.size,1,none⟩ (vI n)).setCell ⟨W2.heap.size,2,none⟩ (.string t)=Wg at hv ⊢;generalize W2.heap.size=p2 at hv ⊢;exact ca.o Wg p2 M1 b k n t ev hv):G:=i hs hc hm he ho
def Zxa{a b c d m G:Prop}(hs:Hid a)(hc:Hid b)(hm:Hid m)(he:c)(ho:d)(i:Hid a->Hid b->Hid m->c->d->G:=by
 intro HS HC HM HE HO ca;refine VJ ?_;intro w1 M1 b k n t ev q0 q1 q2 y0 y1 y2 cE fy;repeat(refine o4 (λK hK=>?_);refine hK _ _ cE.o ?_;clear hK K;try simp only[Act.put,zA,zB,zC])
 repeat(refine G9 (λK hK=>?_);refine hK _ _ ?_;clear hK K)
 refine Si ?_;clear q0 q1 q2 y0 y1 y2;have hv:=fy.o;clear fy;generalize((w1.setCell ⟨z1.heap.size,0,none⟩ (vI k)).setCell ⟨z1.heap.size,1,none⟩ (vI n)).setCell ⟨z1.heap.size,2,none⟩ (.string t)=Wg at hv ⊢;generalize z1.heap.size=p2 at hv ⊢;exact ca.o Wg p2 M1 b k n t ev hv):G:=i hs hc hm he ho
def Ac8{a b c d m G:Prop}(hs:Hid a)(hc:Hid b)(hm:Hid m)(he:c)(ho:d)(i:Hid a->Hid b->Hid m->c->d->G:=by
 intro HS HC HM HE HO ca;refine VJ ?_;intro w1 M1 b k n t ev q0 q1 q2 y0 y1 y2 cE fy;repeat(refine o4 (λK hK=>?_);refine hK _ _ cE.o ?_;clear hK K;try simp only[Act.put,zA,zB,zC])
 repeat(refine G9 (λK hK=>?_);refine hK _ _ ?_;clear hK K)
 refine Si ?_;clear q0 q1 q2 y0 y1 y2;have hv:=fy.o;clear fy;generalize((w1.setCell ⟨W.heap.size,0,none⟩ (vI k)).setCell ⟨W.heap.size,1,none⟩ (vI n)).setCell ⟨W.heap.size,2,none⟩ (.string t)=Wg at hv ⊢;generalize W.heap.size=p2 at hv ⊢;exact ca.o Wg p2 M1 b k n t ev hv):G:=i hs hc hm he ho
def words(x:LVal):List Value:=[vI x.kind,vI x.n,.string x.s]
section
variable {C:RCtx}{M M' M0:MRep}{w w' w1 w2 wE W:kV}{s s':MSt}{B:Nat}{a:ATree}
def MAt.grown(h:MAt C M w s){row:Option Nat}(m:w.grownBy w' row)(hr:∀b,row=some b->(∃c T f,w.heap[b]?=some (.cells c T f)/\T≠41/\T≠22)/\¬M.has b/\C.w0.heap.size<=b):MAt C M w' s:=by
 have hk:∀k,M.has k->w'.heap[k]?=w.heap[k]?:=λk hm=>m.block k (h.lt hm) λe=>(hr k e.symm).2.1 hm;exact
 { heap := h.heap.keep m.size fun k hr => hk k (.inl hr)
   cell:=λo x hx=>(Yb (hk _ h.mbHas)).trans (h.cell o x hx)
   rcell:=λi hi=>(Yb (hk _ h.mbHas)).trans (h.rcell i hi)
   fz:=λo=>(Yn (hk _ h.mbHas)).trans (h.fz o)
   rows:=λi hi=>Z3 (h.rows i hi) λg y=>hk g (.inr ⟨i,hi,y⟩)
   rfree:=λi hi g y=>⟨(h.rfree i hi g y).1,Y7 (h.rfree i hi g y).2 m.size⟩
   rdist:=h.rdist
   clos:=h.clos
   trees:=λx hx=>⟨(h.trees x hx).1.keepB λk p=>m.block k ((h.trees x hx).1.has k p).2 λe=>by
    obtain⟨⟨c,T,f,I,J,O⟩,-,-⟩:=hr k e.symm;obtain⟨c',T',U,F,u⟩:=(h.trees x hx).1.typed k p;rw[I]at F;cases F;rcases u with u|u;·exact J u
    .exact O u,(h.trees x hx).2⟩
   old:=⟨m.os.trans h.old.os,m.tape.trans h.old.tape,m.output.trans h.old.output,Y4 h.old.size m.size,λk p=>(m.block k (Y7 p h.old.size) λe=>absurd (hr k e.symm).2.2 Px).trans (h.old.block k p)⟩
   far:=h.far}
structure VRow(C:RCtx)(M:MRep)(wE w:kV)(v:Value)(vs:List LVal):Prop where
 row:w.ownsRow wE.heap.size 56 3 v vs.length (vs.flatMap words)
 free:∀g,v.ownBlock=some g->¬M.has g
 old:C.w0.heap.size<=wE.heap.size
def VRow.fr{v:Value}{vs:List LVal}(h:VRow C M wE w v vs)(f:MFr M M' w w'):VRow C M' wE w' v vs:=
 ⟨Z3 h.row λg m=>f.block g (Y9 h.row g m).2 (h.free g m),λg m=>f.free g (Y9 h.row g m).2 (h.free g m),h.old⟩
theorem VRow.late{v:Value}{vs:List LVal}(h:VRow C M wE w v vs):∀g,v.ownBlock=some g->wE.heap.size<=g:=λg m=>(Y9 h.row g m).1
def VRow.nil(m:C.w0.heap.size<=wE.heap.size):VRow C M wE w (.slice none 0 0) []:=
 ⟨⟨rfl,.inl ⟨rfl,rfl⟩⟩,λg p=>(by cases p),m⟩
def VRow.push{v:Value}{vs:List LVal}{x:LVal}{g cap:Nat}(h:VRow C M wE w v vs)(F:MAt C M w s)(G:MFr M0 M wE w)(u:kW w w1)(m:w1.grownBy w2 v.ownBlock)
 (I:w2.ownsRow wE.heap.size 56 3 (.slice (some ⟨g,0,none⟩) (vs.length+1) cap) (vs.length+1) (vs.flatMap words++words x))(y:v.ownBlock=some g\/w.heap.size<=g) :
 MAt C M w2 s/\MFr M0 M wE w2/\VRow C M wE w2 (.slice (some ⟨g,0,none⟩) (vs.length+1) cap) (vs++[x])/\(∀b c T,Lo C M wE w b c T->v.ownBlock≠some b->Lo C M wE w2 b c T):=by
 have h1:=h.fr (MFr.of_below u);have J:=F.below u;have p:=G.trans (MFr.of_below (M:=M) u);have hr:∀b,v.ownBlock=some b->(∃c T f,w1.heap[b]?=some (.cells c T f)/\T≠41/\T≠22)/\¬M.has b/\C.w0.heap.size<=b:=λb hb=>by
  refine⟨?_,h.free b hb,Y4 h.old (h.late b hb)⟩;rcases h1.row.2 with⟨rfl,_⟩|⟨Y,Z,iK,rfl,_,O,_⟩;·cases hb
  .cases hb;exact⟨_,_,_,O,by decide,by decide⟩
 have U:=J.grown m hr;refine⟨U,⟨m.os.trans p.os,m.tape.trans p.tape,m.output.trans p.output,Y4 p.size m.size,λk hk hm=>(m.block k (Y7 hk p.size) λe=>by have:=h.late k e.symm;omega).trans (p.block k hk hm),p.free⟩,⟨by simpa using I,λb hb=>?_,h.old⟩,λb c T hl X=>⟨(m.block b (Y7 hl.lt u.size) λe=>X e.symm).trans ((u.block b hl.lt).trans hl.blk),hl.free,hl.late,hl.old⟩⟩;cases hb;rcases y with y|y;·exact h.free g y
 .exact F.fresh y
theorem Z9r:∀(vs:List LVal) {i:Nat} {x:LVal},vs[i]?=some x->∀j,j<3->(vs.flatMap words)[3*i+j]?=(words x)[j]?
 | [],_,_,hx,_,_=>by cases hx
 |y::l,0,x,hx,j,g=>by
   cases hx;rw[List.flatMap_cons,List.getElem?_append_left (by simp[words];omega)];simp
 |y::l,i+1,x,hx,j,g=>by
   rw[List.flatMap_cons,List.getElem?_append_right (by simp[words];omega),show 3*(i+1)+j-(words y).length=3*i+j by simp[words];omega];exact Z9r l hx j g
def VRow.cells{v:Value}{vs:List LVal}(h:VRow C M wE w v vs):(v=.slice none 0 0/\vs=[])\/∃g cap,v=.slice (some ⟨g,0,none⟩) vs.length cap/\vs.length<=cap/\cap<=maxLen/\g<w.heap.size/\
 ∀(i:Nat) (x:LVal),vs[i]?=some x->w.cell? ⟨g,3*i,none⟩=some (vI x.kind)/\w.cell? ⟨g,3*i+1,none⟩=some (vI x.n)/\w.cell? ⟨g,3*i+2,none⟩=some (.string x.s):=by
 have m:=h.row;rcases h.row.2 with⟨rfl,p⟩|⟨g,cap,J,rfl,_,u,y,F,_⟩;·exact .inl ⟨rfl,List.eq_nil_of_length_eq_zero p⟩
 .refine .inr ⟨g,cap,rfl,y,F,(Y1.1 u).1,λi x hx=>?_⟩;have hi:=(List.getElem?_eq_some_iff.1 hx).1;have p:=(m.cellAt (3*i) Px).trans (Z9r vs hx 0 Px);have h1:=(m.cellAt (3*i+1) Px).trans (Z9r vs hx 1 Px);have I:=(m.cellAt (3*i+2) Px).trans (Z9r vs hx 2 Px);exact⟨p,h1,I⟩
end
def Ip:List Nat->Code->Code
 | [],c=>c
 |i::p,.seq a b=>Ip p (if i=0 then a else b)
 |i::p,.cond _ a b=>Ip p (if i=0 then a else b)
 |_::p,.block _ c=>Ip p c
 |_::p,.loop c=>Ip p c
 |_::p,.scope c=>Ip p c
 |_::_,_=>.skip
def FrX(x:Nat->Value):List (Nat×Value)->Prop
 | []=>True
 |(i,v)::l=>x i=v/\FrX x l
structure FrA(n:Nat)(T:List (Nat×Value))(D:List Deferred)(a:Act):Prop where
 size:a.tmps.size=n
 val:FrX (λi=>a.tmps.getD i undef) T
 defs:a.defers=D
def Zcj{T:List (Nat×Value)}{D:List Deferred}{a:Act}(h:FrA 193 T D a):∃x:Nat->Value,a=⟨#[x 0,x 1,x 2,x 3,x 4,x 5,x 6,x 7,x 8,x 9,x 10,x 11,x 12,x 13,x 14,x 15,x 16,x 17,x 18,x 19,x 20,x 21,x 22,x 23,x 24,x 25,x 26,x 27,x 28,x 29,x 30,x 31,x 32,x 33,x 34,x 35,x 36,x 37,x 38,x 39,x 40,x 41,x 42,x 43,x 44,x 45,x 46,x 47,x 48,x 49,x 50,x 51,x 52,x 53,x 54,x 55,x 56,x 57,x 58,x 59,x 60,x 61,x 62,x 63,x 64,x 65,x 66,x 67,x 68,x 69,x 70,x 71,x 72,x 73,x 74,x 75,x 76,x 77,x 78,x 79,x 80,x 81,x 82,x 83,x 84,x 85,x 86,x 87,x 88,x 89,x 90,x 91,x 92,x 93,x 94,x 95,x 96,x 97,x 98,x 99,x 100,x 101,x 102,x 103,x 104,x 105,x 106,x 107,x 108,x 109,x 110,x 111,x 112,x 113,x 114,x 115,x 116,x 117,x 118,x 119,x 120,x 121,x 122,x 123,x 124,x 125,x 126,x 127,x 128,x 129,x 130,x 131,x 132,x 133,x 134,x 135,x 136,x 137,x 138,x 139,x 140,x 141,x 142,x 143,x 144,x 145,x 146,x 147,x 148,x 149,x 150,x 151,x 152,x 153,x 154,x 155,x 156,x 157,x 158,x 159,x 160,x 161,x 162,x 163,x 164,x 165,x 166,x 167,x 168,x 169,x 170,x 171,x 172,x 173,x 174,x 175,x 176,x 177,x 178,x 179,x 180,x 181,x 182,x 183,x 184,x 185,x 186,x 187,x 188,x 189,x 190,x 191,x 192],D⟩/\FrX x T:=by
 obtain⟨t,dd⟩:=a;obtain⟨h1,g,h3⟩:=h;refine⟨λi=>t.getD i undef,?_,g⟩;have e:t=((List.range 193).map λi=>t.getD i undef).toArray:=by
  have h1:t.size=193:=h1;exact Zps
 exact Vm
def Zcn{T:List (Nat×Value)}{D:List Deferred}{a:Act}(h:FrA 201 T D a):∃x:Nat->Value,a=⟨#[x 0,x 1,x 2,x 3,x 4,x 5,x 6,x 7,x 8,x 9,x 10,x 11,x 12,x 13,x 14,x 15,x 16,x 17,x 18,x 19,x 20,x 21,x 22,x 23,x 24,x 25,x 26,x 27,x 28,x 29,x 30,x 31,x 32,x 33,x 34,x 35,x 36,x 37,x 38,x 39,x 40,x 41,x 42,x 43,x 44,x 45,x 46,x 47,x 48,x 49,x 50,x 51,x 52,x 53,x 54,x 55,x 56,x 57,x 58,x 59,x 60,x 61,x 62,x 63,x 64,x 65,x 66,x 67,x 68,x 69,x 70,x 71,x 72,x 73,x 74,x 75,x 76,x 77,x 78,x 79,x 80,x 81,x 82,x 83,x 84,x 85,x 86,x 87,x 88,x 89,x 90,x 91,x 92,x 93,x 94,x 95,x 96,x 97,x 98,x 99,x 100,x 101,x 102,x 103,x 104,x 105,x 106,x 107,x 108,x 109,x 110,x 111,x 112,x 113,x 114,x 115,x 116,x 117,x 118,x 119,x 120,x 121,x 122,x 123,x 124,x 125,x 126,x 127,x 128,x 129,x 130,x 131,x 132,x 133,x 134,x 135,x 136,x 137,x 138,x 139,x 140,x 141,x 142,x 143,x 144,x 145,x 146,x 147,x 148,x 149,x 150,x 151,x 152,x 153,x 154,x 155,x 156,x 157,x 158,x 159,x 160,x 161,x 162,x 163,x 164,x 165,x 166,x 167,x 168,x 169,x 170,x 171,x 172,x 173,x 174,x 175,x 176,x 177,x 178,x 179,x 180,x 181,x 182,x 183,x 184,x 185,x 186,x 187,x 188,x 189,x 190,x 191,x 192,x 193,x 194,x 195,x 196,x 197,x 198,x 199,x 200],D⟩/\FrX x T:=by
 obtain⟨t,dd⟩:=a;obtain⟨h1,g,h3⟩:=h;refine⟨λi=>t.getD i undef,?_,g⟩;have e:t=((List.range 201).map λi=>t.getD i undef).toArray:=by
  have h1:t.size=201:=h1;exact Zps
 exact Vm
def Zej{T:List (Nat×Value)}{D:List Deferred}{a:Act}(h:FrA 214 T D a):∃x:Nat->Value,a=⟨#[x 0,x 1,x 2,x 3,x 4,x 5,x 6,x 7,x 8,x 9,x 10,x 11,x 12,x 13,x 14,x 15,x 16,x 17,x 18,x 19,x 20,x 21,x 22,x 23,x 24,x 25,x 26,x 27,x 28,x 29,x 30,x 31,x 32,x 33,x 34,x 35,x 36,x 37,x 38,x 39,x 40,x 41,x 42,x 43,x 44,x 45,x 46,x 47,x 48,x 49,x 50,x 51,x 52,x 53,x 54,x 55,x 56,x 57,x 58,x 59,x 60,x 61,x 62,x 63,x 64,x 65,x 66,x 67,x 68,x 69,x 70,x 71,x 72,x 73,x 74,x 75,x 76,x 77,x 78,x 79,x 80,x 81,x 82,x 83,x 84,x 85,x 86,x 87,x 88,x 89,x 90,x 91,x 92,x 93,x 94,x 95,x 96,x 97,x 98,x 99,x 100,x 101,x 102,x 103,x 104,x 105,x 106,x 107,x 108,x 109,x 110,x 111,x 112,x 113,x 114,x 115,x 116,x 117,x 118,x 119,x 120,x 121,x 122,x 123,x 124,x 125,x 126,x 127,x 128,x 129,x 130,x 131,x 132,x 133,x 134,x 135,x 136,x 137,x 138,x 139,x 140,x 141,x 142,x 143,x 144,x 145,x 146,x 147,x 148,x 149,x 150,x 151,x 152,x 153,x 154,x 155,x 156,x 157,x 158,x 159,x 160,x 161,x 162,x 163,x 164,x 165,x 166,x 167,x 168,x 169,x 170,x 171,x 172,x 173,x 174,x 175,x 176,x 177,x 178,x 179,x 180,x 181,x 182,x 183,x 184,x 185,x 186,x 187,x 188,x 189,x 190,x 191,x 192,x 193,x 194,x 195,x 196,x 197,x 198,x 199,x 200,x 201,x 202,x 203,x 204,x 205,x 206,x 207,x 208,x 209,x 210,x 211,x 212,x 213],D⟩/\FrX x T:=by
 obtain⟨t,dd⟩:=a;obtain⟨h1,g,h3⟩:=h;refine⟨λi=>t.getD i undef,?_,g⟩;have e:t=((List.range 214).map λi=>t.getD i undef).toArray:=by
  have h1:t.size=214:=h1;exact Zps
 exact Vm
def U9{T:List (Nat×Value)}{D:List Deferred}{a:Act}(h:FrA 240 T D a):∃x:Nat->Value,a=⟨#[x 0,x 1,x 2,x 3,x 4,x 5,x 6,x 7,x 8,x 9,x 10,x 11,x 12,x 13,x 14,x 15,x 16,x 17,x 18,x 19,x 20,x 21,x 22,x 23,x 24,x 25,x 26,x 27,x 28,x 29,x 30,x 31,x 32,x 33,x 34,x 35,x 36,x 37,x 38,x 39,x 40,x 41,x 42,x 43,x 44,x 45,x 46,x 47,x 48,x 49,x 50,x 51,x 52,x 53,x 54,x 55,x 56,x 57,x 58,x 59,x 60,x 61,x 62,x 63,x 64,x 65,x 66,x 67,x 68,x 69,x 70,x 71,x 72,x 73,x 74,x 75,x 76,x 77,x 78,x 79,x 80,x 81,x 82,x 83,x 84,x 85,x 86,x 87,x 88,x 89,x 90,x 91,x 92,x 93,x 94,x 95,x 96,x 97,x 98,x 99,x 100,x 101,x 102,x 103,x 104,x 105,x 106,x 107,x 108,x 109,x 110,x 111,x 112,x 113,x 114,x 115,x 116,x 117,x 118,x 119,x 120,x 121,x 122,x 123,x 124,x 125,x 126,x 127,x 128,x 129,x 130,x 131,x 132,x 133,x 134,x 135,x 136,x 137,x 138,x 139,x 140,x 141,x 142,x 143,x 144,x 145,x 146,x 147,x 148,x 149,x 150,x 151,x 152,x 153,x 154,x 155,x 156,x 157,x 158,x 159,x 160,x 161,x 162,x 163,x 164,x 165,x 166,x 167,x 168,x 169,x 170,x 171,x 172,x 173,x 174,x 175,x 176,x 177,x 178,x 179,x 180,x 181,x 182,x 183,x 184,x 185,x 186,x 187,x 188,x 189,x 190,x 191,x 192,x 193,x 194,x 195,x 196,x 197,x 198,x 199,x 200,x 201,x 202,x 203,x 204,x 205,x 206,x 207,x 208,x 209,x 210,x 211,x 212,x 213,x 214,x 215,x 216,x 217,x 218,x 219,x 220,x 221,x 222,x 223,x 224,x 225,x 226,x 227,x 228,x 229,x 230,x 231,x 232,x 233,x 234,x 235,x 236,x 237,x 238,x 239],D⟩/\FrX x T:=by
 obtain⟨t,dd⟩:=a;obtain⟨h1,g,h3⟩:=h;refine⟨λi=>t.getD i undef,?_,g⟩;have e:t=((List.range 240).map λi=>t.getD i undef).toArray:=by
  have h1:t.size=240:=h1;exact Zps
 exact Vm
def Z6x{H:LHeap}{n:Int}{name:kB}{kind:Int}{v:LVal}(h:(H.declare n name kind v).2≠0):(H.declare n name kind v).1=H:=by
 unfold LHeap.declare at h ⊢;rcases hs:H.scope? n with _|s;·rfl
 .rw[hs]at h;simp only at h ⊢;split;·rfl
  .split;·rfl
   .rename_i h1 g;rw[Y3 h1,Y3 g]at h;exact absurd rfl h
section
variable {C:RCtx}{M M' M0:MRep}{w w' wE:kV}
def VRow.form{v:Value}{vs:List LVal}(h:VRow C M wE w v vs):∃pv m,v=.slice pv vs.length m/\vs.length<=m/\m<=maxLen/\
 ∀(i:Nat) (x:LVal),vs[i]?=some x->∃g,pv=some ⟨g,0,none⟩/\g<w.heap.size/\¬M.has g/\w.cell? ⟨g,i*3,none⟩=some (vI x.kind)/\w.cell? ⟨g,i*3+1,none⟩=some (vI x.n)/\w.cell? ⟨g,i*3+2,none⟩=some (.string x.s):=by
 rcases h.cells with⟨rfl,rfl⟩|⟨g,cap,rfl,h1,p,u,y⟩;·exact⟨none,0,rfl,Y0 _,Yh _,λi x hx=>by simp at hx⟩
 .refine⟨_,cap,rfl,h1,p,λi x hx=>?_⟩;obtain⟨a,b,c⟩:=y i x hx;rw[Nat.mul_comm 3 i]at a b c;exact⟨g,rfl,u,h.free g rfl,a,b,c⟩
end
def Zio{H:LHeap}{n:Int}{name:kB}{v:LVal}{fx:Bool}(g:0<=n)(h1:n<H.objects.length):(H.put n name v fx).2=0:=by
 unfold LHeap.put;rcases ho:H.object? n with _|o
 .unfold LHeap.object? at ho;rw[Y3 Px]at ho;have:=List.getElem?_eq_none_iff.1 ho;omega
 .simp only;split<;>rfl
section
variable {C:RCtx}{M M':MRep}{w w':kV}{s s':MSt}{B:Nat}{a:ATree}{V:VF}{D:DF}{b:Int}{sc:Int}{fr:Frm}{d:Nat}
def zm.from(m:zm C V b)(h:MAt C M w s)(hI:Inv s d)(p:FAt s sc fr)(hb:b<=s.steps)(hs:s.steps<=20000)(hw:(a.nt C.N).wf .v)(hm:(a.nt C.N).tree.many<=1500)(ha:TreeAt w B a)(hf:a.free M) :
 ∀ W, kW w W → kC 78 #[vP C.mb, vP a.b, vI sc, .agg #[.bool fr.strict, vI fr.vars]] W
   λe w'=>∃M' k n t ev,e=.returned (.tuple #[ag k n t,ev])/\ql C M W (V (a.nt C.N) sc fr s) w' M' k n t ev:=
 λW g=>Calls.vres (m W M s a B sc fr d (h.below g) hI p hb hs hw hm (ha.bel g) hf)
def G8.from(m:G8 C D b)(h:MAt C M w s)(hI:Inv s d)(p:FAt s sc fr)(hb:b<=s.steps)(hs:s.steps<=20000)(hw:(a.nt C.N).wf .s)(hm:(a.nt C.N).tree.many<=1500)(ha:TreeAt w B a)(hf:a.free M) :
 ∀ W, kW w W → kC 46 #[vP C.mb, vP a.b, vI sc, .agg #[.bool fr.strict, vI fr.vars]] W
   λe w'=>∃M' b k n t ev,e=.returned (.tuple #[.bool b,ag k n t,ev])/\mA C M W (D (a.nt C.N) sc fr s) w' M' b k n t ev:=
 λW g=>Calls.dres (m W M s a B sc fr d (h.below g) hI p hb hs hw hm (ha.bel g) hf)
def Zr0(cj:zm C V b)(hV:VH V b)(h:MAt C M w s)(hI:Inv s (d+2))(hA:FAt s sc fr)(hb:b<=s.steps)(hs:s.steps<=20000)(ha:TreeAt w B a)(hf:a.free M)
 {x y o:ATree}(hk:a.kids=[x,y])(hx:x.kids=[o])(fU:x.kind≠23)(wo:(o.nt C.N).wf .v)(wy:(y.nt C.N).wf .v)(mo:(o.nt C.N).tree.many<=1500)(my:(y.nt C.N).tree.many<=1500) :
 kC 119 #[vP C.mb,a.ptr,vI sc,.agg #[.bool fr.strict,vI fr.vars]] w λe w'=>cK C M w (qx V (a.nt C.N) sc fr s) e w':=by
 have hR:qx V (a.nt C.N) sc fr s=Zx (V (o.nt C.N) sc fr) (λo=>Zx (V (y.nt C.N) sc fr) λv=>if o.kind=5 then λs=>d9 v (s.put o.n x.text v false)else tE wW) s:=by
  have e0:(a.nt C.N).kid 0=x.nt C.N:=wX Re;have e1:(a.nt C.N).kid 1=y.nt C.N:=wX Re;have e2:(x.nt C.N).kid 0=o.nt C.N:=wX (by rw[hx];rfl);unfold qx;rw[e0,Zb,Y3 fU,e1,e2,rH]
 obtain⟨R,aQ⟩:=zX (qx V (a.nt C.N) sc fr s)
 rw[<-aQ]at hR ⊢;clear aQ;refine OG ?_;intro aP lf lr ln z hz;rw[<-hz]at aP lf lr ln;refine Sp ?_;intro aD aI;obtain⟨F,kc,c3,cC,aR,bO,aX,eZ⟩:=ha.row hf QF;rw[hk]at c3 cC bO;have Z:x∈a.kids:=QF
 have sA:=aI.kid Z;have fR:=hf.kid Z;obtain⟨xg,xc,x3,dI,sq,cD,jn,vK⟩:=(ha.kid Z).row fR P9;rw[hx]at x3 dI cD;have im:o∈x.kids:=P9
 have ex:y∈a.kids:=QF
 have k0:=bO 0 x rfl;have k1:=bO 1 y rfl;have x0:=cD 0 o rfl;simp only[List.length_cons,List.length_nil]at c3 cC x3 dI;obtain⟨r1,bz⟩:=zX (V (o.nt C.N) sc fr s)
 have bE:=lh (cj.from aD hI hA hb hs wo mo (sA.kid im) (fR.kid im));rw[<-bz]at bE;have an:=(hV (o.nt C.N) sc fr s _ wo mo hI hA hb hs).1;rw[<-bz]at an;unfold Zx at hR;rw[<-bz]at hR;obtain⟨HR,bI,gZ,pF,oU,HLR,bM,HBZ⟩:=kw hR an hA (aI.kid ex) (hf.kid ex) lr ln aP;have bN:=ha.lt;have g9:=(ha.kid Z).lt;have Ax:=(ha.kid Z).c0;have sG:=(ha.kid Z).c1
 have aq:∀W M',MFr M M' z W->vC W w.heap.size 0 (.bool fr.strict)/\vC W w.heap.size 1 (vI fr.vars)/\vC W a.b 3 (.slice (some ⟨F,0,none⟩) 2 kc)/\vC W F 0 (vP x.b)/\vC W F 1 (vP y.b)/\
  vC W x.b 3 (.slice (some ⟨xg,0,none⟩) 1 xc)/\vC W xg 0 (vP o.b)/\vC W x.b 1 (.string x.text):=λW M' f=>
  have g:MFr M M' w W:=(MFr.of_below aP).trans f;⟨(lf.fr f).cell rfl,(lf.fr f).cell rfl,(g.cell bN hf.blk).trans c3,(g.cell aX eZ).trans k0,(g.cell aX eZ).trans k1,(g.cell g9 fR.blk).trans x3,(g.cell jn vK).trans x0,(g.cell g9 fR.blk).trans sG⟩
 obtain⟨-,-,d3,e0,-,-,-,-⟩:=aq z M (.refl _ _);have dk:=(aP.cell g9).trans Ax;rw[hz]at d3 e0 dk;obtain⟨HS,HZ,HM⟩:=ds aq hz aD;have bk:(x.kind==23)=false:=by simp[fU]
 have HO:=lh h.old.size;have HE:=lh aP.size;clear c3 k0 k1 x0 x3 Ax sG aq hz aD lf bO cD hk hx fU bz an h hI ha aI sA hR lr ln aP hA hf fR;unfold ATree.ptr;go_enter func119,ntmps119
 go_wp2_with fail
 rw[<-HZ.o];clear d3 e0 dk
 refine vy (.take 0 (.take 1 (.take 2 (.take 3 (.take 4 (.take 5 (.take 6 (.take 7 (.take 8 (.two 9 (.take 10 (.take 11 (.take 12 (.go 13 (.go 14 (.go 15 (.nil))))))) 13 (.go 9 (.take 10 (.take 11 (.take 12 (.go 14 (.go 15 (.nil))))))))))))))))) 14 (λW=>vC W w.heap.size 0 (.bool fr.strict)/\vC W w.heap.size 1 (vI fr.vars)/\vC W a.b 3 (.slice (some ⟨F,0,none⟩) 2 kc)/\vC W F 0 (vP x.b)/\vC W F 1 (vP y.b)/\vC W x.b 3 (.slice (some ⟨xg,0,none⟩) 1 xc)/\vC W xg 0 (vP o.b)/\vC W x.b 1 (.string x.text)) (HS.o _ _ (MFr.drew (.refl _ _))) ?_
 refine qa ?_;refine Zr ?_;apply Sx (H:=ru C w M z r1);·exact SU HS bE HE.o HO.o
 .exact Oz HS bE HM HE.o HO.o
 intro W1 p1 M1 k1 n1 t1 bL ah;obtain⟨s1,q1⟩:=r1;cases q1 with
 |error x1=>
   refine Xb ?_;intro he av hR;simp only at hR;subst hR;obtain⟨T1,P1,rfl,hP⟩:=he.ne;have ed:=lh he;obtain⟨q0,q1,q2,z0,z1,z2⟩:=(HLR.o.fr ah.1.2.1).six;obtain⟨n0,Mo,U,-,-,-⟩:=(bM.o.fr ah.1.2.1).six;clear ah he HR;go_wp2;refine Yp (v:=.tuple #[.agg #[vI 0,vI 0,.string ⟨#[]⟩],.iface T1 (.pointer P1)]) ?_ rfl ?_;·exact SG
   .exact .err HLR.o HBZ.o av.o.1.1 av.o.1.2.1 ed.o
 |ok v1=>
   obtain⟨rfl,rfl⟩:v1=⟨k1,n1,t1⟩/\bL=.nilIface:=ah.1.2.2;obtain⟨i1,x1,-,em,i2⟩:=bI.o;have F1:=ah.1.2.1;have vL:=ah.1.1;have ty:=F1.tree pF.o oU.o;have hst:=x1.steps;obtain⟨r2,hr2⟩:=zX (V (y.nt C.N) sc fr s1)
   have bP:=lh (cj.from vL i1 (gZ.o.ext x1) (Int.le_trans hb hst) i2 wy my ty.1 ty.2);rw[<-hr2]at bP;have bC:=lh (show Fin s1 _ VQ r2 by rw[hr2];exact(hV (y.nt C.N) sc fr s1 _ wy my i1 (gZ.o.ext x1) (Int.le_trans hb hst) i2).1);have hR:=HR.o;simp only at hR;rw[<-hr2]at hR;obtain⟨bW,bA,av,bT,ed,Mp⟩:=gq (λW M' (f:MFr M1 M' W1 W)=>HS.o W M' (F1.trans f)) hR ah vL (Y4 HE.o F1.size) em;clear ah F1 vL ty hr2 hR HR x1 i1 i2 hst em;go_wp2_with fail
   refine vy (.take 0 (.take 1 (.take 2 (.take 3 (.take 4 (.take 5 (.take 6 (.take 7 (.take 8 (.two 9 (.take 10 (.take 11 (.take 12 (.go 13 (.go 14 (.go 15 (.nil))))))) 13 (.go 9 (.take 10 (.take 11 (.take 12 (.go 14 (.go 15 (.nil))))))))))))))))) 14 (λW=>vC W w.heap.size 0 (.bool fr.strict)/\vC W w.heap.size 1 (vI fr.vars)/\vC W a.b 3 (.slice (some ⟨F,0,none⟩) 2 kc)/\vC W F 0 (vP x.b)/\vC W F 1 (vP y.b)/\vC W x.b 3 (.slice (some ⟨xg,0,none⟩) 1 xc)/\vC W xg 0 (vP o.b)/\vC W x.b 1 (.string x.text)) (bW.o _ _ (MFr.drew (.refl _ _))) ?_
   refine qa ?_;refine Zr ?_;apply Sx (H:=ru C w M1 W1 r2);·exact SU bW bP ed.o HO.o
   .exact Zxs bW bP bT ed.o HO.o
   intro W2 p2 M2 k2 U t2 nK I;obtain⟨s2,q2⟩:=r2;have F2:=I.1.2.1;have O:=av.o.1.2.1.trans F2;cases q2 with
   |error x2=>
     have he:ax C M2 W2 x2 nK:=I.1.2.2;have aN:=lh I;have hR:=bA.o;simp only at hR;subst hR;obtain⟨T1,P1,rfl,hP⟩:=he.ne;have nL:=lh he;obtain⟨q0,q1,q2,z0,z1,z2⟩:=(HLR.o.fr O).six;obtain⟨m0,m1,m2,-,-,-⟩:=(bM.o.fr O).six;have J:=lh O;clear I he bA F2 O;go_wp2;refine Yp (v:=.tuple #[.agg #[vI 0,vI 0,.string ⟨#[]⟩],.iface T1 (.pointer P1)]) ?_ rfl ?_;·exact SG
     .exact .err HLR.o HBZ.o aN.o.1.1 J.o nL.o
   |ok v2=>
     obtain⟨rfl,rfl⟩:v2=⟨k2,U,t2⟩/\nK=.nilIface:=I.1.2.2;obtain⟨i1,x2,-,CF,i2⟩:=bC.o;have hR:=bA.o;simp only at hR;obtain⟨c0,c1,c2,-,-,-⟩:=(av.o.2.fr F2).six;obtain⟨q0,q1,q2,z0,z1,z2⟩:=(HLR.o.fr O).six;obtain⟨m0,m1,m2,-,-,-⟩:=(bM.o.fr O).six;obtain⟨g0,g1,g2,-,-,-⟩:=I.2.six;have aM:=I.1.1;obtain⟨xQ,oN,J,ba,gS,bR,HR⟩:=gw x2 i1 O F2 I.2 aM hR;obtain⟨-,-,-,-,-,-,-,xt⟩:=bW.o W2 M2 F2;clear I bA F2 O x2 i1 i2 CF hR aM
     by_cases h5:k1=5
     .subst h5;have pO:=Mp.o.2.2.2.2 rfl;have HC:=lh (Zio (H:=s2.H) (n:=n1) (name:=x.text) (v:=⟨k2,U,t2⟩) (fx:=false) pO.1 (Int.lt_of_lt_of_le pO.2 (by have :=xQ.o.lo;exact Int.ofNat_le.2 this)));have hp:=B7 bR.o.drew oN.o n1 x.text ⟨k2,U,t2⟩ false;rw[HC.o]at hp;rw[show da 0= .nilIface from rfl]at hp;simp only[LVal.agg]at hp;have HP:=lh hp;clear hp pO;go_wp2_with fail
      have iB:=lh (show∀u M',MFr M2 M' W2 u->vC u p2 0 (vI k2)/\vC u p2 1 (vI U)/\vC u p2 2 (.string t2)/\vC u p1 1 (vI n1)/\vC u x.b 1 (.string x.text)from
       λu M' f=>⟨(gS.o.fr f).cell rfl,(gS.o.fr f).cell rfl,(gS.o.fr f).cell rfl,((av.o.2.fr ba.o).fr f).cell rfl,(bW.o u M' (ba.o.trans f)).2.2.2.2.2.2.2⟩)
      refine ow [(true,0),(true,1),(true,2),(true,3),(true,4),(true,5),(true,6),(true,7),(true,8),(true,9),(true,10),(false,11)] [12,13] (λW=>vC W p2 0 (vI k2)/\vC W p2 1 (vI U)/\vC W p2 2 (.string t2)/\vC W p1 1 (vI n1)/\vC W x.b 1 (.string x.text)) ⟨g0,g1,g2,c1,xt⟩ (λbq=>?_);refine f8 ?_;intro K hK;refine HP.o.mono ?_;rintro e W3⟨rfl,M3,dC,bg⟩;have p:=(MFr.drew (.refl M2 W2)).trans bg
      refine hK _ _ (iB.o _ _ p) ?_;clear hK K q0 q1 q2 z0 z1 z2 m0 m1 m2 g0 g1 g2 c0 c1 c2 xt;obtain⟨q0,q1,q2,z0,z1,z2⟩:=(HLR.o.fr (J.o.trans p)).six;have dE:=lh dC;have bK:=lh (J.o.trans p);clear dC bg p;refine Z0 ?_;have hR:=HR.o;simp only[if_true,d9]at hR;subst hR;go_wp2;refine Yp (v:=.tuple #[.agg #[vI k2,vI U,.string t2],.nilIface]) ?_ rfl ?_;·exact SG
      .exact .fine HLR.o HBZ.o dE.o bK.o
     .have b5:(k1 !=5)=true:=by simp[h5]
      have HP:=lh (Sf bR.o.drew wW)
      have iB:=lh (show∀u M',MFr M2 M' W2 u->vC u (w.heap.size+1+1) 0 (vI 0)/\vC u (w.heap.size+1+1) 1 (vI 0)/\vC u (w.heap.size+1+1) 2 (.string ⟨#[]⟩)from
       λu M' f=>⟨(bM.o.fr (J.o.trans f)).cell rfl,(bM.o.fr (J.o.trans f)).cell rfl,(bM.o.fr (J.o.trans f)).cell rfl⟩)
      have Mq:=lh h5;clear h5;go_wp2_with fail
      refine Aag ?_;intro bq;refine f8 ?_;intro K hK;refine HP.o.mono ?_;rintro e W3⟨fg,rfl,jZ,Y⟩;have p:MFr M2 M2 W2 W3:=(MFr.drew (.refl M2 W2)).trans (.of_below Y);refine hK _ _ (iB.o _ _ p) ?_;clear hK K q0 q1 q2 z0 z1 z2 m0 m1 m2 g0 g1 g2 c0 c1 c2 xt;obtain⟨q0,q1,q2,z0,z1,z2⟩:=(HLR.o.fr (J.o.trans p)).six;obtain⟨dE,bK,iN⟩:=ds (bR.o.drew.below Y) (J.o.trans p) jZ;clear p jZ Y;refine Z0 ?_;have hR:=HR.o;simp only[Mq.o,if_false,tE,r']at hR;subst hR;go_wp2
      refine Yp (v:=.tuple #[.agg #[vI 0,vI 0,.string ⟨#[]⟩],fg]) ?_ rfl ?_;·exact SG
      .exact Zug
end
open Go.Extern.Stop Go.Stop Go.Extern
def TH(t:Addr)(w:kV):(ReflectliteValue.unpack (.iface 207 (.pointer (some t)))).run Tryz.prog w
 = .ok (.agg #[.pointer (some ⟨8,207,none⟩),vP w.heap.size,.int .u64 150]) (w.alloc (.cells #[.pointer (some t)] 207)):=by kernel_rfl
def ZT(a:Addr)(w:kV):(ReflectliteValue.methodAny (ReflectliteValue.valueError "reflectlite.Value.Type" 0) (λt _ _ _=>ReflectliteType.toType t) #[.agg #[.pointer (some ⟨8,207,none⟩),.pointer (some a),.int .u64 150]]).run Tryz.prog w
 = .ok (.iface 167 (.agg #[.pointer (some ⟨8,207,none⟩)])) w:=by kernel_rfl
theorem Sz(h:Value)(w:kV):(Go.method 371 167 (.agg #[h]) "Kind").run Tryz.prog w= .ok (183,h) w:=by kernel_rfl
theorem Aab(w:kV):((ReflectliteType.abiMethod λt=>(λa:Nat=>Value.int IntKind.u8 (a:Int))<$>Rtype.kind t) #[.pointer (some ⟨8,207,none⟩)]).run Tryz.prog w=.ok (.int .u8 22) w:=by kernel_rfl
theorem YX(w:kV):((ReflectliteType.abiMethod λt=>(λa:Nat=>Value.int IntKind.u8 (a:Int))<$>Rtype.kind t) #[.pointer (some ⟨8,44,none⟩)]).run Tryz.prog w=.ok (.int .u8 2) w:=by kernel_rfl
def rlm(z:Sem Value)(f:TypeId->Addr->Nat->Nat->Sem Value)(v:Value) :
 ReflectliteValue.method z f #[v]=(do match<-ReflectliteValue.parts v with|none=>z|some (t,a,fl)=>f t a fl (fl %32)):=rfl
theorem SX(a:Addr)(w:kV):(ReflectliteValue.parts (.agg #[.pointer (some ⟨8,207,none⟩),.pointer (some a),.int .u64 150])).run Tryz.prog w=.ok (some (207,a,150)) w:=by kernel_rfl
def VS(a p:Addr)(W:kV)(ha:W.cell? a=some (.pointer (some p))) :
 (ReflectliteValue.method (ReflectliteValue.valueError "reflectlite.Value.IsNil" 0) ReflectliteValue.isNil #[.agg #[.pointer (some ⟨8,207,none⟩),.pointer (some a),.int .u64 150]]).run Tryz.prog W= .ok (.bool false) W:=by
 rw[rlm];simp only[Sem.run_bind,SX,Result.andThen];simp[ReflectliteValue.isNil,loadVar,isAgg,underlying,underlying207,ha,Result.andThen]
theorem SL(h:Value)(w:kV):(Go.method 371 167 (.agg #[h]) "Elem").run Tryz.prog w= .ok (197,.agg #[h]) w:=by kernel_rfl
theorem wL(h:Value)(w:kV):(Go.method 371 167 (.agg #[h]) "Implements").run Tryz.prog w= .ok (198,.agg #[h]) w:=by kernel_rfl
theorem su(h:Value)(w:kV):(Go.method 371 167 (.agg #[h]) "AssignableTo").run Tryz.prog w= .ok (195,.agg #[h]) w:=by kernel_rfl
theorem Aaq(w:kV):(ReflectliteType.method ReflectliteType.elem #[.agg #[.pointer (some ⟨8,207,none⟩)]]).run Tryz.prog w=.ok (.iface 167 (.agg #[.pointer (some ⟨8,44,none⟩)])) w:=by kernel_rfl
theorem I1(w:kV):(ReflectliteType.relation "Implements" ReflectliteType.implements_ #[.agg #[.pointer (some ⟨8,44,none⟩)],.iface 167 (.agg #[.pointer (some ⟨8,32,none⟩)])]).run Tryz.prog w= .ok (.bool true) w:=by kernel_rfl
theorem UZ(v:Value)(w:kV):(ReflectliteType.typeOf #[.iface 44 v]).run Tryz.prog w=.ok (.iface 167 (.agg #[.pointer (some ⟨8,44,none⟩)])) w:=by kernel_rfl
theorem Io(w:kV):(ReflectliteType.relation "AssignableTo" ReflectliteType.assignableTo #[.agg #[.pointer (some ⟨8,44,none⟩)],.iface 167 (.agg #[.pointer (some ⟨8,44,none⟩)])]).run Tryz.prog w= .ok (.bool true) w:=by kernel_rfl
def TI(e:Int)(w:kV):(ReflectliteValue.unpack (.iface 44 (vI e))).run Tryz.prog w
 = .ok (.agg #[.pointer (some ⟨8,44,none⟩),vP w.heap.size,.int .u64 130]) (w.alloc (.cells #[vI e] 44)):=by kernel_rfl
theorem Um(w:kV):(Rtype.elem? 207).run Tryz.prog w=.ok (some 44) w:=by kernel_rfl
theorem Adb(p:Addr)(w:kV):(ReflectliteValue.mk 44 p ReflectliteValue.flagAddr).run Tryz.prog w=.ok (.agg #[.pointer (some ⟨8,44,none⟩),.pointer (some p),.int .u64 386]) w:=by kernel_rfl
def V9(a p:Addr)(W:kV)(ha:W.cell? a=some (.pointer (some p))) :
 (ReflectliteValue.method (ReflectliteValue.valueError "reflectlite.Value.Elem" 0) ReflectliteValue.elem #[.agg #[.pointer (some ⟨8, 207, none⟩), .pointer (some a), .int .u64 150]]).run Tryz.prog W
  = .ok (.agg #[.pointer (some ⟨8,44,none⟩),.pointer (some p),.int .u64 386]) W:=by
 rw[rlm];simp only[Sem.run_bind,SX,Result.andThen];simp[ReflectliteValue.elem,loadVar,isAgg,underlying,underlying207,ha,Result.andThen,Um,Adb]
def rls(v x:Value):ReflectliteValue.set #[v,x]=(do
 let(some (dst,a,fl),some (oD,b,_)):=(<-ReflectliteValue.parts v,<-ReflectliteValue.parts x)
  |unsupported (.noEntry "extern/(internal/reflectlite.Value).Set.zeroValue")
 if fl/ReflectliteValue.flagAddr %2==0 then unsupported (.noEntry "extern/(internal/reflectlite.Value).Set.unaddressable")
 let val <-loadVar oD b
 if<-Rtype.directlyAssignable dst oD then storeVar dst a val
 else if<-Rtype.implements dst oD then
  if(<-Rtype.kind oD)==20 then
   match val with
   | .nilIface=>unsupported (.noEntry "extern/reflectlite: a nil value of one interface type handed on as a value of another")
   |_=>storeVar dst a val
  else storeVar dst a (.iface oD val)
 else panicString ("reflectlite.Set: value of type " ++(<-Rtype.spelt oD)++ " is not assignable to type " ++(<-Rtype.spelt dst))
 pure (.tuple #[])):=rfl
theorem U3(a:Addr)(w:kV):(ReflectliteValue.parts (.agg #[.pointer (some ⟨8,44,none⟩),.pointer (some a),.int .u64 386])).run Tryz.prog w=.ok (some (44,a,386)) w:=by kernel_rfl
theorem VD(a:Addr)(w:kV):(ReflectliteValue.parts (.agg #[.pointer (some ⟨8,44,none⟩),.pointer (some a),.int .u64 130])).run Tryz.prog w=.ok (some (44,a,130)) w:=by kernel_rfl
theorem UM(w:kV):(Rtype.directlyAssignable 44 44).run Tryz.prog w=.ok true w:=by kernel_rfl
def Aax(g b:Addr)(e:Int)(old:Value)(W:kV)(hb:W.cell? b=some (vI e))(ht:W.cell? g=some old)(hf:W.frozen? g=false) :
 (ReflectliteValue.set #[.agg #[.pointer (some ⟨8, 44, none⟩), .pointer (some g), .int .u64 386], .agg #[.pointer (some ⟨8, 44, none⟩), .pointer (some b), .int .u64 130]]).run Tryz.prog W
  = .ok (.tuple #[]) (W.setCell g (vI e)):=by
 rw[rls];simp only[Sem.run_bind,U3,VD,Result.andThen];simp[ReflectliteValue.flagAddr,loadVar,isAgg,underlying,underlying44,hb,Result.andThen,UM,storeVar,Value.cells,storeCells,Addr.add];rw[run_store Tryz.prog W g _ _ PM];simp[ht,hf]
def AaA(e:Int)(t:Addr)(old:Value)(w:kV)(hg:w.cell? ⟨1,0,none⟩=some (.iface 167 (.agg #[.pointer (some ⟨8,32,none⟩)])))(BX:w.cell? t=some old)(m:w.frozen? t=false) :
 kC 25 #[.iface 44 (vI e),.iface 207 (.pointer (some t))] w λev w'=>ev=.returned (.bool true)/\w'=((((w.alloc (.cells #[.pointer (some t)] 207)).alloc (.cells #[.pointer (some ⟨8,207,none⟩),vP w.heap.size,.int .u64 150] 122)).alloc (.cells #[.pointer (some ⟨8,207,none⟩),vP w.heap.size,.int .u64 150] 122)).alloc (.cells #[vI e] 44)).setCell t (vI e):=by
 refine Abn ?_;intro h6 h7 h8 qR lV xi nU Dm Dn px;have p:=UZ;have u:=su;have y:=Io;have F:=TI;have I:=TH;have J:=ZT;have O:=Sz;have U:=SL;have X:=wL;have Y:=Aab;have Z:=YX;have Mu:=Aaq;have Mv:=I1
 have n8:=VS ⟨w.heap.size,0,none⟩ t ((w.alloc (.cells #[.pointer (some t)] 207)).alloc (.cells #[.pointer (some ⟨8,207,none⟩),vP w.heap.size,.int .u64 150] 122)) PE;have ay:1<w.heap.size:=by
  exact Xo
 have i':((w.alloc (.cells #[.pointer (some t)] 207)).alloc (.cells #[.pointer (some ⟨8,207,none⟩),vP w.heap.size,.int .u64 150] 122)).cell? ⟨1,0,none⟩=some (.iface 167 (.agg #[.pointer (some ⟨8,32,none⟩)])):=by
  exact Wt
 have g:t.block<w.heap.size:=by
  exact Wz
 have el:=V9 ⟨w.heap.size,0,none⟩ t (((w.alloc (.cells #[.pointer (some t)] 207)).alloc (.cells #[.pointer (some ⟨8,207,none⟩),vP w.heap.size,.int .u64 150] 122)).alloc (.cells #[.pointer (some ⟨8,207,none⟩),vP w.heap.size,.int .u64 150] 122)) (by rw[World.cell?_alloc_lt _ _ ⟨w.heap.size,0,none⟩ Qa];simp)
 have st:=Aax t ⟨w.heap.size+1+1+1,0,none⟩ e old ((((w.alloc (.cells #[.pointer (some t)] 207)).alloc (.cells #[.pointer (some ⟨8,207,none⟩),vP w.heap.size,.int .u64 150] 122)).alloc (.cells #[.pointer (some ⟨8,207,none⟩),vP w.heap.size,.int .u64 150] 122)).alloc (.cells #[vI e] 44))
  (by rw[World.cell?_alloc_at _ _ _ _ PE];rfl)
  (by rw[World.cell?_alloc_lt _ _ t Qa,World.cell?_alloc_lt _ _ t Qa,World.cell?_alloc_lt _ _ t Qa,World.cell?_alloc_lt _ _ t g];exact BX)
  (by rw[World.frozen?_alloc_old _ _ t Qa,World.frozen?_alloc_old _ _ t Qa,World.frozen?_alloc_old _ _ t Qa,World.frozen?_alloc_old _ _ t (Nat.ne_of_lt g)];exact m)
 exact Zyq
def Tb(w:kV):Prop:=w.cell? ⟨1,0,none⟩=some (.iface 167 (.agg #[.pointer (some ⟨8,32,none⟩)]))
def Tb.lt{w:kV}(h:Tb w):1<w.heap.size:=by
 rcases Nat.lt_or_ge 1 w.heap.size with g|g;·exact g
 .simp[Tb,World.cell?,Array.getElem?_eq_none g]at h
theorem Tb.below{w w':kV}(h:Tb w)(g:kW w w'):Tb w':=(g.cell (p:=⟨1,0,none⟩) h.lt).trans h
def Zrw(w:kV)(c:Int)(g:Tb w) :
 kC 123 #[da c] w λe w'=>e=.returned (vI c)/\kW w w':=by
 by_cases hc:c=0
 .subst hc;simp only[da,if_true];go_enter func123,ntmps123
  go_wp2;go_ret;exact⟨rfl,Y2 _ _⟩
 .simp only[da,if_neg hc];have F:=g.lt;have u:=lh (AaA c ⟨w.heap.size,0,none⟩ (vI 0) (w.alloc (.cells #[vI 0] 44)) ((Zc (p:=⟨1,0,none⟩) F).trans g) (Ys _ _ _ 0) (World.frozen?_alloc_new _ _ _ _));clear g;go_enter func123,ntmps123
  go_wp2_with fail
  refine u.o.mono ?_;rintro e w1⟨rfl,m⟩;have y:kW w w1:=by
   rw[m];refine Below.setCell ?_ PE _;repeat(refine Below.alloc ?_ (by simp;try omega) _)
   exact Y2 _ _
  have hx:w1.cell? ⟨w.heap.size,0,none⟩=some (vI c):=by
   rw[m];rw[World.cell?_setCell_same'];rw[Zc Qa,Zc Qa,Zc Qa,Zc PE];rw[Ys];rfl
  have I:=lh y;clear y m u;go_wp2;go_ret;exact⟨rfl,I.o⟩
section
variable {C:RCtx}{M M':MRep}{w w':kV}{s s':MSt}{B:Nat}{a:ATree}{V:VF}{D:DF}{b:Int}{sc:Int}{fr:Frm}{d:Nat}
def Inv.objLt(h:Inv s d){n:Int}(g:0<=s.H.objectOf n):s.H.objectOf n<s.H.objects.length:=by
 unfold LHeap.objectOf at g ⊢;rcases hs:s.H.scope? n with _|c;·rw[hs]at g;exact absurd g Py
 .obtain⟨m,rfl,hm⟩:=LHeap.scope?_some hs;exact(h.scp c (Yd hm)).2.1
theorem Znq(r:Root s):0<=s.glob/\s.glob<s.H.objects.length:=by rw[r.glob];exact⟨by decide,by have:=r.objs;omega⟩
def Z9v(oE:Tb C.w0)(h:MAt C M w s)(hI:Inv s d)(hr:Root s)(p:Int)(name:kB)(v:LVal)(fr:Frm) :
 kC 79 #[vP C.mb,vI p,.string name,v.agg,.agg #[.bool fr.strict,vI fr.vars]] w λe w'=>Ada C M w (Sr p name v fr s) e w':=by
 obtain⟨R,aQ⟩:=zX (Sr p name v fr s)
 have hR:=aQ;unfold Sr at hR;rw[<-aQ];clear aQ;obtain⟨vk,vn,vt⟩:=v;simp only[LVal.agg];obtain⟨st,fv⟩:=fr;simp only at hR ⊢;have b1:=Z1 w (vO vk vn vt);have l1:=Lo.new (wE:=w) h (Y0 _) h.old.size #[vI vk,vI vn,.string vt] 56;have b2:=b1.trans ((Z1 (w.alloc (vO vk vn vt)) (frO ⟨st,fv⟩)).mono b1.size);have y:=l1.bel (Z1 _ (frO ⟨st,fv⟩));have Z:=Lo.new (wE:=w) (h.below b1) b1.size h.old.size #[.bool st,vI fv] 63;rw[World.size_alloc]at Z;unfold vO frO at b2;unfold vO at Z;unfold frO at y
 obtain⟨z,X⟩:=zX ((w.alloc (.cells #[vI vk,vI vn,.string vt] 56)).alloc (.cells #[.bool st,vI fv] 63))
 simp only at b2 y;rw[<-X]at b2 y Z;have dB:=lh Z;clear Z;have F:=h.below b2;have gY:=lh (MFr.of_below (M:=M) b2);have fs:vC z (w.heap.size+1) 0 (.bool st):=dB.o.cell rfl;have fl:w.heap.size+1<z.heap.size:=by rw[X];simp
 have J:=F.cell 10 (vI s.glob) PI;obtain⟨HM,O,HI,OZ,vM,HL,HH,qr⟩:=kw F X hI hr oE y (Wj F p name) (λ(t:kB) W (hB:kW z W)=>Sf (F.below hB) t);have p9:=lh (λ(n:Int) (hn:0<=n/\n<s.H.objects.length) W (hB:kW z W)=>by
  have hp:=B7 (F.below hB) hI n name ⟨vk,vn,vt⟩ false;rw[Zio hn.1 hn.2,show da 0=.nilIface from rfl]at hp;simp only[LVal.agg]at hp;exact hp)
 have HS:=lh (show∀W M',MFr M M' z W->vC W w.heap.size 0 (vI vk)/\vC W w.heap.size 1 (vI vn)/\vC W w.heap.size 2 (.string vt)from
  λW M' f=>⟨(y.fr f).cell rfl,(y.fr f).cell rfl,(y.fr f).cell rfl⟩)
 by_cases hc:p<0\/s.H.has p name=false
 ·rw [Y5 hc] at hR;have df:decide (p < 0)=true∨decide (p < 0)=false∧s.H.has p name=false:=by
   by_cases u:p<0;·exact .inl (decide_eq_true u)
   .exact .inr ⟨decide_eq_false u,hc.resolve_left u⟩
  cases st
  .simp only[Bool.false_eq_true,if_false]at hR;obtain⟨g,cV⟩:=zX s.glob
   obtain⟨o,ho⟩:=zX (s.H.objectOf p)
   have jI:0<=g/\g<s.H.objects.length:=by rw[cV];exact Znq hr
   have xR:0<=o->o<s.H.objects.length:=λu=>by rw[ho]at u ⊢;exact hI.objLt u
   have HO:=lh (λW (hB:kW z W)=>Z6o (F.below hB).heap p);rw[<-ho]at HO hR;rw[<-cV]at J hR;obtain⟨JK,CG,HR⟩:=ds jI xR hR;clear hR hc h hI hr oE X F l1 y b1 b2 cV ho jI xR;rcases df with I|⟨I,Y⟩
   .have d1:decide (0<=p)=false:=by simp at I ⊢;exact I
    have bA:=lh (show R=d9 () (s.put g name ⟨vk,vn,vt⟩ false) by rw[HR.o,Y3 (by simp at I;omega)]);have JL:=J;rw[O.o]at JL;go_enter func79,ntmps79
    go_wp2_with fail
    rw[<-O.o];clear JL;refine ow [(true,0),(true,1),(true,2),(true,3),(true,4),(true,5)] [6,7] (λW=>vC W w.heap.size 0 (vI vk)/\vC W w.heap.size 1 (vI vn)/\vC W w.heap.size 2 (.string vt)) (HS.o _ _ (.drew (.refl _ _))) (λbq=>?_);refine oK ?_;refine Z0 ?_;go_wp2_with fail
    refine(p9.o g JK.o _ (Zd _)).mono ?_;rintro e w3⟨rfl,M3,h3,f3⟩;have H3:=lh h3;have bK:=lh (gY.o.trans (MFr.trans (.drew (.refl _ _)) f3));clear h3 f3;go_wp2;go_ret;rw[bA.o];exact⟨M3,H3.o,bK.o,rfl⟩
   .rw[Y]at HH;have d1:decide (0<=p)=true:=by simp at I ⊢;exact I
    by_cases u:0<=o
    .have d2:decide (0<=o)=true:=decide_eq_true u;have bA:=lh (show R=d9 () (s.put o name ⟨vk,vn,vt⟩ false) by rw[HR.o,Y5 ⟨by simp at I;omega,u⟩]);have HN:=lh (show 0<=o/\o<s.H.objects.length from⟨u,CG.o u⟩);clear u;go_enter func79,ntmps79
     go_wp2_with fail
     rw[<-O.o];refine Zq9 ?_;intro w1 aO xm;have mC:=(aO.cell HM.o.mbLt).trans J;have av:=lh aO;clear aO fs J;go_wp2_with fail
     refine(HO.o w1 av.o).mono ?_;rintro e w2⟨rfl,rfl⟩;go_wp2_with fail
     refine(HO.o w2 av.o).mono ?_;rintro e w3⟨rfl,rfl⟩;go_wp2_with fail
     refine Aaj ?_;intro bq;go_wp2_with fail
     refine(p9.o o HN.o _ av.o.drew).mono ?_;exact Wv
    .have d2:decide (0<=o)=false:=decide_eq_false u;have bA:=lh (show R=d9 () (s.put g name ⟨vk,vn,vt⟩ false) by rw[HR.o,Y3 (λe=>u e.2)]);clear u;go_enter func79,ntmps79
     go_wp2_with fail
     rw[<-O.o];refine Zq9 ?_;intro w1 aO xm;have mC:=(aO.cell HM.o.mbLt).trans J;have av:=lh aO;clear aO fs J;go_wp2_with fail
     refine(HO.o w1 av.o).mono ?_;rintro e w2⟨rfl,rfl⟩;go_wp2_with fail
     refine Aaj ?_;intro bq;go_wp2_with fail
     refine(p9.o g JK.o _ av.o.drew).mono ?_;exact Wv
  .simp only[if_true]at hR;have HR:=lh hR;clear hR hc h hI hr oE X F l1 y b1 b2;rcases df with I|⟨I,Y⟩
   .go_enter func79,ntmps79
    go_wp2_with fail
    rw[<-O.o];refine(qr.o Tp _ (Y2 _ _)).mono ?_;rintro e w1⟨ev,rfl,he,aO⟩;have av:=lh aO;have HE:=lh he;clear aO he;go_wp2;go_ret;rw[HR.o];exact⟨M,HM.o.below av.o,gY.o.trans (.of_below av.o),ev,rfl,HE.o⟩
   .rw[Y]at HH;go_enter func79,ntmps79
    go_wp2_with fail
    rw[<-O.o];refine Zq9 ?_;intro w1 aO xm;have av:=lh aO;clear aO fs J;go_wp2_with fail
    refine(qr.o Tp _ av.o).mono ?_;rintro e w2⟨ev,rfl,he,ar⟩;have aN:=zT av ar;have HE:=lh he;clear ar he;go_wp2;go_ret;rw[HR.o];exact⟨M,HM.o.below aN.o,gY.o.trans (.of_below aN.o),ev,rfl,HE.o⟩
 .rw[Y3 hc]at hR;have I:decide (p<0)=false:=decide_eq_false (λe=>hc (.inl e));have Y:s.H.has p name=true:=by
   cases hq:s.H.has p name;·exact absurd (.inr hq) hc
   .rfl
  rw[Y]at HH;have hw:=λW (hB:kW z W)=>Zf0 (F.below hB) hI p name ⟨vk,vn,vt⟩;simp only[LVal.agg]at hw;obtain⟨m,gi⟩:=zX ((s.H.write p name ⟨vk,vn,vt⟩).2)
  rw[<-gi]at hw hR;have HW:=lh hw;have HR:=lh hR;clear hR hc h hI hr oE X F l1 y b1 b2 J Y hw gi;have an:(m==6)=true/\m=6\/(m==6)=false/\(m==1)=true/\m=1\/(m==6)=false/\(m==1)=false/\(m==5)=true/\m=5\/(m==6)=false/\(m==1)=false/\(m==5)=false:=by
   simp only[beq_iff_eq,beq_eq_false_iff_ne];omega
  go_enter func79,ntmps79
  go_wp2_with fail
  rw[<-O.o];refine Zq9 ?_;intro w1 aO xm;have av:=lh aO;clear aO fs;go_wp2_with fail
  refine Aaj ?_;intro bq;go_wp2_with fail
  refine(HW.o _ av.o.drew).mono ?_;rintro e w2⟨rfl,M2,h2,f2⟩;have F2:=(MFr.of_below (M:=M) av.o.drew).trans f2;have JM:vC w2 (w.heap.size+1) 0 (.bool st):=(dB.o.fr F2).cell rfl;obtain⟨HT,H2,ba⟩:=ds (Zrw w2 m (vM.o.below (h2.old))) h2 F2;clear h2 f2 F2 xm;go_wp2_with fail
  refine HT.o.mono ?_;rintro e w3⟨rfl,U⟩;have HB3:=lh U;have O0:=(U.cell (Y7 fl ba.o.size)).trans JM;clear U JM;rcases an with⟨d6,rfl⟩|⟨d6,d1,rfl⟩|⟨d6,d1,d5,rfl⟩|⟨d6,d1,d5⟩
  .have HQ:=lh (Sf (H2.o.below HB3.o) Tp);exact YS
  .have HQ:=lh (Sf (H2.o.below HB3.o) wW);exact YS
  .cases st
   .go_wp2;go_ret;have hR:=HR.o;simp[d9]at hR;exact Zwx
   .have HQ:=lh (Sf (H2.o.below HB3.o) wW);exact YS
  .have HD:=lh (show¬m=6/\¬m=1/\¬m=5 from⟨by simpa using d6,by simpa using d1,by simpa using d5⟩);go_wp2;go_ret;have hR:=HR.o;rw[Y3 HD.o.1,Y3 HD.o.2.1,Y3 (λe=>HD.o.2.2 e.1)]at hR;exact Zwx
def Zln(hC:C.Ok)(oE:Tb C.w0)(cj:zm C V b)(hV:VH V b)(h:MAt C M w s)(hI:Inv s (d+2))(hA:FAt s sc fr)(hb:b<=s.steps)(hs:s.steps<=20000)(ha:TreeAt w B a)(hf:a.free M)
 {x y:ATree}(hk:a.kids=[x,y])(fU:x.kind=23)(wy:(y.nt C.N).wf .v)(my:(y.nt C.N).tree.many<=1500) :
 kC 119 #[vP C.mb,a.ptr,vI sc,.agg #[.bool fr.strict,vI fr.vars]] w λe w'=>cK C M w (qx V (a.nt C.N) sc fr s) e w':=by
 obtain⟨s1,Y⟩:=zX (s.look (x.nt C.N) sc x.text)
 obtain⟨ix,iL⟩:=zX (s.H.find sc x.text)
 have hR:qx V (a.nt C.N) sc fr s=Zx (V (y.nt C.N) sc fr) (λv=>Zx (Sr ix x.text v fr) λ_=>d9 v) s1:=by
  have e0:(a.nt C.N).kid 0=x.nt C.N:=wX Re;have e1:(a.nt C.N).kid 1=y.nt C.N:=wX Re;unfold qx;rw[e0,Zb,Y5 fU,e1,rH,Y,iL]
 obtain⟨R,aQ⟩:=zX (qx V (a.nt C.N) sc fr s)
 rw[<-aQ]at hR ⊢;clear aQ;refine OG ?_;intro aP lf lr ln z hz;rw[<-hz]at aP lf lr ln;refine Sp ?_;intro aD aI;obtain⟨kg,kc,c3,cC,aR,bO,aX,eZ⟩:=ha.row hf QF;rw[hk]at c3 cC bO;have Z:x∈a.kids:=QF
 have ex:y∈a.kids:=QF
 have sA:=aI.kid Z;have fR:=hf.kid Z;have k0:=bO 0 x rfl;have u:=bO 1 y rfl;simp only[List.length_cons,List.length_nil]at c3 cC;obtain⟨CH,O⟩:=Zdt (n:=x.nt C.N) (sc:=sc) (name:=x.text) (d:=d+1) hI;rw[<-Y]at CH O;have hst:=O.steps;have vN:s1.steps<=20000:=by rw[Y,Zig.2.1];exact hs
 obtain⟨r1,bz⟩:=zX (V (y.nt C.N) sc fr s1)
 have an:=(hV (y.nt C.N) sc fr s1 _ wy my CH (hA.ext O) (Int.le_trans hb hst) vN).1;rw[<-bz]at an;unfold Zx at hR;rw[<-bz]at hR;have fH:=Zfs hC aD hI.wf hI.own sA sc x.text hI.lens.2.2.2.2.2.2.2;rw[<-iL,<-Y]at fH;have oF:=lh fH;have bE:=lh (λW1 M1 (dY:MAt C M1 W1 s1) (ty:TreeAt W1 B y/\y.free M1)=>cj.from dY CH (hA.ext O) (Int.le_trans hb hst) vN wy my ty.1 ty.2);rw[<-bz]at bE;obtain⟨HR,bI,gZ,pF,oU,HLR⟩:=gq hR an (hA.ext O) (aI.kid ex) (hf.kid ex) lr
 obtain⟨bM,HBZ,vM⟩:=ds ln aP oE;have bN:=ha.lt;have g9:=(ha.kid Z).lt;have Ax:=(ha.kid Z).c0;have sG:=(ha.kid Z).c1;have aq:∀W M',MFr M M' z W->vC W w.heap.size 0 (.bool fr.strict)/\vC W w.heap.size 1 (vI fr.vars)/\vC W a.b 3 (.slice (some ⟨kg,0,none⟩) 2 kc)/\vC W kg 1 (vP y.b)/\vC W x.b 1 (.string x.text):=λW M' f=>
  have g:MFr M M' w W:=(MFr.of_below aP).trans f;⟨(lf.fr f).cell rfl,(lf.fr f).cell rfl,(g.cell bN hf.blk).trans c3,(g.cell aX eZ).trans u,(g.cell g9 fR.blk).trans sG⟩
 have dk:=(aP.cell g9).trans Ax;have d1:=(aP.cell g9).trans sG;have e0:=(aP.cell aX).trans k0;have d3:=(aP.cell bN).trans c3;rw[fU]at dk;rw[hz]at d3 e0 dk d1;obtain⟨HS,HZ,HM,HO,HE⟩:=gp aq hz aD h.old.size aP.size;clear c3 k0 u Ax sG aq hz aD lf bO hk fU bz an h hI ha aI sA hR lr ln aP hA hf fR Y iL CH O hst vN fH oE;unfold ATree.ptr at oF ⊢;go_enter func119,ntmps119
 go_wp2_with fail
 rw[<-HZ.o];clear d3 e0 dk d1;refine oF.o.mono ?_;rintro e W0⟨rfl,M0,cw,fw⟩;obtain⟨bP,dp,ik,gY,rW⟩:=gp (bE.o W0 M0 cw (fw.tree pF.o oU.o)) (λW M' (f:MFr M0 M' W0 W)=>HS.o W M' (fw.trans f)) cw fw (Y4 HE.o fw.size);clear cw fw;go_wp2_with fail
 refine vy (.take 0 (.take 1 (.take 2 (.take 3 (.take 4 (.take 5 (.take 6 (.take 7 (.take 8 (.two 9 (.take 10 (.take 11 (.take 12 (.go 13 (.go 14 (.go 15 (.nil))))))) 13 (.go 9 (.take 10 (.take 11 (.take 12 (.go 14 (.go 15 (.nil))))))))))))))))) 14 (λW=>vC W w.heap.size 0 (.bool fr.strict)/\vC W w.heap.size 1 (vI fr.vars)/\vC W a.b 3 (.slice (some ⟨kg,0,none⟩) 2 kc)/\vC W kg 1 (vP y.b)/\vC W x.b 1 (.string x.text)) (dp.o _ _ (MFr.drew (.refl _ _))) ?_
 refine qa ?_;refine Zr ?_;apply Sx (H:=ru C w M0 W0 r1);·exact SU dp bP rW.o HO.o
 .exact WH dp bP ik rW.o HO.o
 intro W1 U M1 u F I bL ah;have J:=gY.o.trans ah.1.2.1;obtain⟨s2,q1⟩:=r1;cases q1 with
 |error x1=>
   refine Xb ?_;intro he av hR;simp only at hR;subst hR;obtain⟨T1,P1,rfl,hP⟩:=he.ne;have ed:=lh he;have bw:=lh J;obtain⟨q0,q1,q2,z0,z1,z2⟩:=(HLR.o.fr J).six;obtain⟨n0,Mo,n2,-,-,-⟩:=(bM.o.fr J).six;clear ah he HR J;go_wp2;refine Yp (v:=.tuple #[.agg #[vI 0,vI 0,.string ⟨#[]⟩],.iface T1 (.pointer P1)]) ?_ rfl ?_;·exact SG
   .exact Zsy
 |ok v1=>
   obtain⟨rfl,rfl⟩:v1=⟨u,F,I⟩/\bL=.nilIface:=ah.1.2.2;obtain⟨i1,x1,-,em,i2⟩:=bI.o;have hR:=HR.o;simp only at hR;have sH:=lh (Z9v vM.o ah.1.1.drew i1 (gZ.o.root.ext x1) ix x.text ⟨u,F,I⟩ fr);simp only[LVal.agg]at sH;obtain⟨g0,g1,g2,-,-,-⟩:=ah.2.six
   have bW:=lh (show∀W M',MFr M1 M' W1 W->vC W U 0 (vI u)/\vC W U 1 (vI F)/\vC W U 2 (.string I)/\vC W x.b 1 (.string x.text)/\vC W w.heap.size 0 (.bool fr.strict)/\vC W w.heap.size 1 (vI fr.vars)from
    λW M' f=>have g:=HS.o W M' (J.trans f);⟨(ah.2.fr f).cell rfl,(ah.2.fr f).cell rfl,(ah.2.fr f).cell rfl,g.2.2.2.2,g.1,g.2.1⟩)
   have bA:=lh hR;have bw:=lh J;clear ah J hR HR x1 i1 i2 em g0 g1 g2;go_wp2_with fail
   refine ow [(true,0),(true,1),(true,2),(true,3),(true,4),(true,5),(true,6),(true,7),(true,8),(false,9)] [10,11] (λW=>vC W U 0 (vI u)/\vC W U 1 (vI F)/\vC W U 2 (.string I)/\vC W x.b 1 (.string x.text)/\vC W w.heap.size 0 (.bool fr.strict)/\vC W w.heap.size 1 (vI fr.vars)) (bW.o _ _ (.drew (.refl _ _))) (λbq=>?_);refine f8 ?_;intro K hK;refine sH.o.mono ?_;rintro e W3⟨M3,dC,bg,cr⟩
   have p:=(MFr.drew (.refl M1 W1)).trans bg;obtain⟨q0,q1,q2,z0,z1,z2⟩:=(HLR.o.fr (bw.o.trans p)).six;have dE:=lh dC;have bK:=lh (bw.o.trans p);obtain⟨r3,de⟩:=zX (Sr ix x.text ⟨u,F,I⟩ fr s2)
   rw[<-de]at cr dC dE;have hR:=bA.o;rw[<-de]at hR;obtain⟨s3,q3⟩:=r3;cases q3 with
   |error x3=>
     obtain⟨ev,rfl,he⟩:=cr;have Ay:=bW.o _ _ p;refine hK _ _ Ay ?_;simp only at hR;subst hR;have iN:=lh he;clear hK K dC bg p he de bA Ay;refine Z0 ?_;go_wp2;refine Yp (v:=.tuple #[.agg #[vI u,vI F,.string I],ev]) ?_ rfl ?_;·exact SG
     .exact Zug
   |ok u3=>
     have he:e=.returned .nilIface:=cr;subst he;have Ay:=bW.o _ _ p;refine hK _ _ Ay ?_;simp only[d9]at hR;subst hR;clear hK K dC bg p de bA Ay;refine Z0 ?_;go_wp2;refine Yp (v:=.tuple #[.agg #[vI u,vI F,.string I],.nilIface]) ?_ rfl ?_;·exact SG
     .exact .fine HLR.o HBZ.o dE.o bK.o
end
