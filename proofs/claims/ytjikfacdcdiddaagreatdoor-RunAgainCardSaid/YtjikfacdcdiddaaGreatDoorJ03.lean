/- A heap that is changed: the plain part. -/
import Derived.Test.YtjikfacdcdiddaaGreatDoorJ02
import Derived.Deep.AppendLies
import Derived.Deep.RegionHeld3
import Derived.Deep.RegionLaw
set_option linter.unusedSimpArgs false
set_option maxRecDepth 100000
set_option maxHeartbeats 20000000
namespace Go.Proofs.YtjikfacdcdiddaaGreatDoor
open Go Go.RowKit
theorem Zh{w:World}{b o:Nat}{c:Array Value}{T:TypeId}{mk:Nat×Nat}(v:Value)(h:w.heap[b]?=some (.cells c T mk)) :
 (w.setCell ⟨b,o,none⟩ v).heap[b]?=some (.cells (c.setIfInBounds o v) T mk):=by
 simp[World.setCell,Array.getElem?_modify,h]
theorem WC{w wA w1:World}{row:Option Nat}{hb off:Nat}{x:Value}(g:Value)(m:Below w.heap.size w wA)(p:wA.grownBy w1 row)(I:hb<w.heap.size)(y:row≠some hb)
 (hc:w.cell? ⟨hb,off,none⟩=some x) :
 (w1.setCell ⟨hb,off,none⟩ g).cell? ⟨hb,off,none⟩=some g∧(∀o,o≠off->(w1.setCell ⟨hb,off,none⟩ g).cell? ⟨hb,o,none⟩=w.cell? ⟨hb,o,none⟩)∧
 (∀o,(w1.setCell ⟨hb,off,none⟩ g).frozen? ⟨hb,o,none⟩=w.frozen? ⟨hb,o,none⟩)∧
 (∀b,b<w.heap.size->b≠hb->some b≠row->(w1.setCell ⟨hb,off,none⟩ g).heap[b]?=w.heap[b]?)∧
 (∀b,b≠hb->(w1.setCell ⟨hb,off,none⟩ g).heap[b]?=w1.heap[b]?)∧
 (∀b,b<wA.heap.size->b≠hb->some b≠row->(w1.setCell ⟨hb,off,none⟩ g).heap[b]?=wA.heap[b]?)∧
 w.heap.size<=(w1.setCell ⟨hb,off,none⟩ g).heap.size∧(w1.setCell ⟨hb,off,none⟩ g).os=w.os∧(w1.setCell ⟨hb,off,none⟩ g).tape=w.tape∧(w1.setCell ⟨hb,off,none⟩ g).output=w.output:=by
 have O:hb<wA.heap.size:=Y7 I m.size;have J:w1.heap[hb]?=w.heap[hb]?:=(p.block hb O (λe=>y e.symm)).trans (m.block hb I);have c1:∀o,w1.cell? ⟨hb,o,none⟩=w.cell? ⟨hb,o,none⟩:=λo=>Yb J;have U:∀o,w1.frozen? ⟨hb,o,none⟩=w.frozen? ⟨hb,o,none⟩:=λo=>Yn J;have hs:∀b,b≠hb->(w1.setCell ⟨hb,off,none⟩ g).heap[b]?=w1.heap[b]?:=λb y=>Y8 _ _ _ _ y
 refine⟨World.cell?_setCell_same _ _ _ ((c1 off).trans hc),λo ho=>?_,λo=>?_,λb u E F=>?_,hs,λb u E F=>?_,?_,p.os.trans m.os,p.tape.trans m.tape,p.output.trans m.output⟩;·rw[World.cell?_setCell_other _ _ _ _ (by intro e;cases e;exact ho rfl)];exact c1 o
 .rw[World.frozen?_setCell];exact U o
 .exact(hs b E).trans ((p.block b (Y7 u m.size) F).trans (m.block b u))
 .exact(hs b E).trans (p.block b u F)
 .exact Y4 m.size (Y4 p.size PF)
section
variable {ρ:Nat->Option Role}{w w':World}{hb ho:Nat}{L:HL}{H:LHeap}
theorem U3{α:Type}{f:α->List Value}{m:Nat}(hf:∀a,(f a).length=m)(l:List α):(l.flatMap f).length=l.length*m:=by
 induction l with
 |nil=>simp
 |cons a l g=>rw[List.flatMap_cons,Yi,g,hf,List.length_cons,Nat.succ_mul,Nat.add_comm]
theorem HeapAt.setNames(h:HeapAt ρ w hb ho L H){i:Nat}{s:LScope}(hi:H.scopes[i]?=some s){nv':Value}{names':List LBind}
 (ac:w'.heap[L.sb i]?=some (.cells #[vI s.outer,vI s.object,nv'] 111 (0,0)))
 (af:w'.ownsRow 0 159 6 nv' names'.length (names'.flatMap LBind.cells))
 (be:w.heap.size<=w'.heap.size)
 (p:∀b,b<w.heap.size->b≠L.sb i->some b≠(L.nv i).ownBlock->w'.heap[b]?=w.heap[b]?)
 (u:∀g,nv'.ownBlock=some g->(L.nv i).ownBlock=some g∨w.heap.size<=g)
 (y:w'.os=w.os)(E:w'.tape=w.tape)(F:w'.output=w.output) :
 ∃ρ' I,HeapAt ρ' w' hb ho I {H with scopes:=H.scopes.set i {s with names:=names'}}∧Fr ρ ρ' hb ho w w':=by
 have fB:=getElem?_lt hi;let ρ':Nat->Option Role:=λb=>if nv'.ownBlock=some b then some (.nam i)else ρ b
 have far:∀b r,ρ b=some r->r≠.scp i->r≠.nam i->w'.heap[b]?=w.heap[b]?:=λb r hr J O=>
  p b (h.live b Qt) (by rintro rfl;rw[h.rsb i fB]at hr;exact J (Yc hr).symm)
   (by intro e;rw[h.rnv i b fB e.symm]at hr;exact O (Yc hr).symm)
 have role:∀b r,ρ b=some r->r≠.nam i->ρ' b=some r:=λb r hr n=>by
  have:nv'.ownBlock≠some b:=λe=>by
   rcases u b e with e|e;·rw[h.rnv i b fB e]at hr;exact n (Yc hr).symm
   .have:=h.live b Qt;omega
  simp only[ρ',if_neg this];exact hr
 have m:w'.heap[hb]?=w.heap[hb]?:=far hb .hp h.rhp Pg Pg;refine⟨ρ',{L with nv:=λj=>if j=i then nv' else L.nv j},?_,?_⟩
 .refine{cellO:=?_,cellS:=?_,frO:=?_,frS:=?_,rowO:=?_,rowS:=?_,obj:=?_,scp:=?_,rhp:=?_,rvo:=?_,rvs:=?_,rob:=?_,rpv:=?_,rsb:=?_,rnv:=?_,live:=?_};·exact(Yb m).trans h.cellO
  .exact(Yb m).trans h.cellS
  .exact(Yn m).trans h.frO
  .exact(Yn m).trans h.frS
  .exact Zqe
  .simp only[List.length_set];exact Zpx
  .exact Zwh
  .intro j t hj;by_cases cK:j=i;·exact Zwc
   .simp only[if_neg cK];rw[List.getElem?_set_ne O']at hj;have iH:=getElem?_lt hj;exact⟨by rw[far _ _ (h.rsb j iH) Pe Pg];exact(h.scp j t hj).1,Z2 (h.scp j t hj).2 λg hg=>far g _ (h.rnv j g iH hg) Pg Pe⟩
  .exact role _ _ h.rhp Pg
  .exact λg hg=>role _ _ (h.rvo g hg) Pg
  .exact λg hg=>role _ _ (h.rvs g hg) Pg
  .exact λj hj=>role _ _ (h.rob j hj) Pg
  .exact λj g hj hg=>role _ _ (h.rpv j g hj hg) Pg
  .intro j hj;simp only[List.length_set]at hj;exact role _ _ (h.rsb j hj) Pg
  .intro j g hj hg;simp only[List.length_set]at hj;by_cases cK:j=i
   .subst cK;simp only[if_true]at hg;simp[ρ',hg]
   .simp only[if_neg cK]at hg;exact role _ _ (h.rnv j g hj hg) Pe
  .exact Zwd
 .refine⟨y,E,F,be,λk hk hr=>?_,λk hk hr=>?_,λ_ _ _=>Yb m,λ_=>Yn m⟩;·exact p k hk (by rintro rfl;simp[h.rsb i fB]at hr) (by intro e;simp[h.rnv i k fB e.symm]at hr)
  .have:nv'.ownBlock≠some k:=λe=>by
    rcases u k e with e|e;·simp[h.rnv i k fB e]at hr
    .omega
   simp only[ρ',if_neg this];exact hr
theorem HeapAt.setProps(h:HeapAt ρ w hb ho L H){i:Nat}{s:LObj}(hi:H.objects[i]?=some s){nv':Value}{props':List LProp}
 (ac:w'.heap[L.ob i]?=some (.cells #[nv',vI s.code] 98 (0,0)))
 (af:w'.ownsRow 0 103 5 nv' props'.length (props'.flatMap LProp.cells))
 (be:w.heap.size<=w'.heap.size)
 (p:∀b,b<w.heap.size->b≠L.ob i->some b≠(L.pv i).ownBlock->w'.heap[b]?=w.heap[b]?)
 (u:∀g,nv'.ownBlock=some g->(L.pv i).ownBlock=some g∨w.heap.size<=g)
 (y:w'.os=w.os)(E:w'.tape=w.tape)(F:w'.output=w.output) :
 ∃ρ' I,HeapAt ρ' w' hb ho I {H with objects:=H.objects.set i {s with props:=props'}}∧Fr ρ ρ' hb ho w w':=by
 have fB:=getElem?_lt hi;let ρ':Nat->Option Role:=λb=>if nv'.ownBlock=some b then some (.prp i)else ρ b
 have far:∀b r,ρ b=some r->r≠.obj i->r≠.prp i->w'.heap[b]?=w.heap[b]?:=λb r hr J O=>
  p b (h.live b Qt) (by rintro rfl;rw[h.rob i fB]at hr;exact J (Yc hr).symm)
   (by intro e;rw[h.rpv i b fB e.symm]at hr;exact O (Yc hr).symm)
 have role:∀b r,ρ b=some r->r≠.prp i->ρ' b=some r:=λb r hr n=>by
  have:nv'.ownBlock≠some b:=λe=>by
   rcases u b e with e|e;·rw[h.rpv i b fB e]at hr;exact n (Yc hr).symm
   .have:=h.live b Qt;omega
  simp only[ρ',if_neg this];exact hr
 have m:w'.heap[hb]?=w.heap[hb]?:=far hb .hp h.rhp Pg Pg;refine⟨ρ',{L with pv:=λj=>if j=i then nv' else L.pv j},?_,?_⟩
 .refine{cellO:=?_,cellS:=?_,frO:=?_,frS:=?_,rowO:=?_,rowS:=?_,obj:=?_,scp:=?_,rhp:=?_,rvo:=?_,rvs:=?_,rob:=?_,rpv:=?_,rsb:=?_,rnv:=?_,live:=?_};·exact(Yb m).trans h.cellO
  .exact(Yb m).trans h.cellS
  .exact(Yn m).trans h.frO
  .exact(Yn m).trans h.frS
  .simp only[List.length_set];exact Zqe
  .exact Zpx
  .intro j t hj;by_cases cK:j=i;·exact Zwc
   .simp only[if_neg cK];rw[List.getElem?_set_ne O']at hj;have iH:=getElem?_lt hj;exact⟨by rw[far _ _ (h.rob j iH) Pe Pg];exact(h.obj j t hj).1,Z2 (h.obj j t hj).2 λg hg=>far g _ (h.rpv j g iH hg) Pg Pe⟩
  .exact Zue
  .exact role _ _ h.rhp Pg
  .exact λg hg=>role _ _ (h.rvo g hg) Pg
  .exact λg hg=>role _ _ (h.rvs g hg) Pg
  .intro j hj;simp only[List.length_set]at hj;exact role _ _ (h.rob j hj) Pg
  .intro j g hj hg;simp only[List.length_set]at hj;by_cases cK:j=i
   .subst cK;simp only[if_true]at hg;simp[ρ',hg]
   .simp only[if_neg cK]at hg;exact role _ _ (h.rpv j g hj hg) Pe
  .exact λj hj=>role _ _ (h.rsb j hj) Pg
  .exact λj g hj hg=>role _ _ (h.rnv j g hj hg) Pg
  .exact Zwd
 .refine⟨y,E,F,be,λk hk hr=>?_,λk hk hr=>?_,λ_ _ _=>Yb m,λ_=>Yn m⟩;·exact p k hk (by rintro rfl;simp[h.rob i fB]at hr) (by intro e;simp[h.rpv i k fB e.symm]at hr)
  .have:nv'.ownBlock≠some k:=λe=>by
    rcases u k e with e|e;·simp[h.rpv i k fB e]at hr
    .omega
   simp only[ρ',if_neg this];exact hr
theorem Zle(f:Nat->Nat)(n nb:Nat):x6 (λj=>if j=n then nb else f j) (n+1)=x6 f n++[vP nb]:=by
 unfold x6;rw[List.range_succ,Yl];congr 1
 .refine List.map_congr_left λj g=>?_;have:=List.mem_range.1 g;simp only[if_neg (show j≠n by omega)]
 .simp
theorem HeapAt.addScope(h:HeapAt ρ w hb ho L H){nb:Nat}{m:Value}{outer object:Int}
 (J:w'.cell? ⟨hb,ho+1,none⟩=some m)(ac:w'.heap[nb]?=some (.cells #[vI outer,vI object,.slice none 0 0] 111 (0,0)))
 (af:w'.ownsRow 0 106 1 m (H.scopes.length+1) (x6 L.sb H.scopes.length++[vP nb]))
 (dw:w.heap.size<=nb)(be:w.heap.size<=w'.heap.size)
 (E:∀b,b<w.heap.size->b≠hb->some b≠L.vs.ownBlock->w'.heap[b]?=w.heap[b]?)
 (F:∀o,o≠ho+1->w'.cell? ⟨hb,o,none⟩=w.cell? ⟨hb,o,none⟩)(p:∀o,w'.frozen? ⟨hb,o,none⟩=w.frozen? ⟨hb,o,none⟩)
 (I:∀g,m.ownBlock=some g->L.vs.ownBlock=some g∨w.heap.size<=g)(O:m.ownBlock≠some nb)
 (u:w'.os=w.os)(y:w'.tape=w.tape)(U:w'.output=w.output) :
 ∃ρ' X,HeapAt ρ' w' hb ho X {H with scopes:=H.scopes++[⟨outer,object,[]⟩]}∧Fr ρ ρ' hb ho w w':=by
 let n:=H.scopes.length
 let ρ':Nat->Option Role:=λb=>if b=nb then some (.scp n)else if m.ownBlock=some b then some .scps else ρ b
 have far:∀b r,ρ b=some r->r≠.hp->r≠.scps->w'.heap[b]?=w.heap[b]?:=λb r hr n1 Y=>
  E b (h.live b Qt) Qp
   (by intro e;rw[h.rvs b e.symm]at hr;exact Y (Yc hr).symm)
 have role:∀b r,ρ b=some r->r≠.scps->ρ' b=some r:=λb r hr hn=>by
  have aA:=h.live b Qt;have u:b≠nb:=O'
  have y:m.ownBlock≠some b:=λe=>by
   rcases I b e with e|e;·rw[h.rvs b e]at hr;exact hn (Yc hr).symm
   .omega
  simp only[ρ',if_neg u,if_neg y];exact hr
 refine⟨ρ',{L with vs:=m,sb:=λj=>if j=n then nb else L.sb j,nv:=λj=>if j=n then .slice none 0 0 else L.nv j},?_,?_⟩
 .refine{cellO:=?_,cellS:=?_,frO:=?_,frS:=?_,rowO:=?_,rowS:=?_,obj:=?_,scp:=?_,rhp:=?_,rvo:=?_,rvs:=?_,rob:=?_,rpv:=?_,rsb:=?_,rnv:=?_,live:=?_};·exact(F ho O').trans h.cellO
  .exact J
  .exact(p ho).trans h.frO
  .exact(p _).trans h.frS
  .exact Zqe
  .exact Zu8
  .exact Zwh
  .intro j t hj;by_cases cK:j=n;·exact XE
   .simp only[if_neg cK];have iH:j<H.scopes.length:=by
     have:=getElem?_lt hj;simp at this;simp only[n]at cK;omega
    rw[List.getElem?_append_left iH]at hj;exact⟨by rw[far _ _ (h.rsb j iH) Pg Pg];exact(h.scp j t hj).1,Z2 (h.scp j t hj).2 λg hg=>far g _ (h.rnv j g iH hg) Pg Pg⟩
  .exact role _ _ h.rhp Pg
  .exact λg hg=>role _ _ (h.rvo g hg) Pg
  .intro g hg;have :g≠nb:=by rintro rfl;exact O hg
   simp[ρ',this,show m.ownBlock=some g from hg]
  .exact λj hj=>role _ _ (h.rob j hj) Pg
  .exact λj g hj hg=>role _ _ (h.rpv j g hj hg) Pg
  .intro j hj;by_cases cK:j=n;·subst cK;simp[ρ']
   .simp only[if_neg cK];simp only[zL,zM,zN]at hj;exact role _ _ (h.rsb j Qo) Pg
  .intro j g hj hg;by_cases cK:j=n;·subst cK;simp[Value.ownBlock]at hg
   .simp only[if_neg cK]at hg;simp only[zL,zM,zN]at hj;exact role _ _ (h.rnv j g Qo hg) Pg
  .intro b dB;by_cases e1:b=nb;·subst e1;exact(Y1.1 ac).1
   .by_cases e:m.ownBlock=some b;·exact(af.lt b e).2
    .exact Zve
 .refine⟨u,y,U,be,λk hk hr=>?_,λk hk hr=>?_,λo _ Z=>F o Z,p⟩;·exact E k hk (by rintro rfl;simp[h.rhp]at hr) (by intro e;simp[h.rvs k e.symm]at hr)
  .have h4:k≠nb:=by omega
   have:m.ownBlock≠some k:=λe=>by
    rcases I k e with e|e;·simp[h.rvs k e]at hr
    .omega
   simp only[ρ',if_neg this,if_neg h4];exact hr
theorem HeapAt.addObject(h:HeapAt ρ w hb ho L H){nb:Nat}{m:Value}{code:Int}
 (J:w'.cell? ⟨hb,ho,none⟩=some m)(ac:w'.heap[nb]?=some (.cells #[.slice none 0 0,vI code] 98 (0,0)))
 (af:w'.ownsRow 0 95 1 m (H.objects.length+1) (x6 L.ob H.objects.length++[vP nb]))
 (dw:w.heap.size<=nb)(be:w.heap.size<=w'.heap.size)
 (E:∀b,b<w.heap.size->b≠hb->some b≠L.vo.ownBlock->w'.heap[b]?=w.heap[b]?)
 (F:∀o,o≠ho->w'.cell? ⟨hb,o,none⟩=w.cell? ⟨hb,o,none⟩)(p:∀o,w'.frozen? ⟨hb,o,none⟩=w.frozen? ⟨hb,o,none⟩)
 (I:∀g,m.ownBlock=some g->L.vo.ownBlock=some g∨w.heap.size<=g)(O:m.ownBlock≠some nb)
 (u:w'.os=w.os)(y:w'.tape=w.tape)(U:w'.output=w.output) :
 ∃ρ' X,HeapAt ρ' w' hb ho X {H with objects:=H.objects++[⟨[],code⟩]}∧Fr ρ ρ' hb ho w w':=by
 let n:=H.objects.length
 let ρ':Nat->Option Role:=λb=>if b=nb then some (.obj n)else if m.ownBlock=some b then some .objs else ρ b
 have far:∀b r,ρ b=some r->r≠.hp->r≠.objs->w'.heap[b]?=w.heap[b]?:=λb r hr n1 Y=>
  E b (h.live b Qt) Qp
   (by intro e;rw[h.rvo b e.symm]at hr;exact Y (Yc hr).symm)
 have role:∀b r,ρ b=some r->r≠.objs->ρ' b=some r:=λb r hr hn=>by
  have aA:=h.live b Qt;have u:b≠nb:=O'
  have y:m.ownBlock≠some b:=λe=>by
   rcases I b e with e|e;·rw[h.rvo b e]at hr;exact hn (Yc hr).symm
   .omega
  simp only[ρ',if_neg u,if_neg y];exact hr
 refine⟨ρ',{L with vo:=m,ob:=λj=>if j=n then nb else L.ob j,pv:=λj=>if j=n then .slice none 0 0 else L.pv j},?_,?_⟩
 .refine{cellO:=?_,cellS:=?_,frO:=?_,frS:=?_,rowO:=?_,rowS:=?_,obj:=?_,scp:=?_,rhp:=?_,rvo:=?_,rvs:=?_,rob:=?_,rpv:=?_,rsb:=?_,rnv:=?_,live:=?_};·exact J
  .exact(F (ho+1) O').trans h.cellS
  .exact(p ho).trans h.frO
  .exact(p _).trans h.frS
  .exact Zu8
  .exact Zpx
  .intro j t hj;by_cases cK:j=n;·exact XE
   .simp only[if_neg cK];have iH:j<H.objects.length:=by
     have:=getElem?_lt hj;simp at this;simp only[n]at cK;omega
    rw[List.getElem?_append_left iH]at hj;exact⟨by rw[far _ _ (h.rob j iH) Pg Pg];exact(h.obj j t hj).1,Z2 (h.obj j t hj).2 λg hg=>far g _ (h.rpv j g iH hg) Pg Pg⟩
  .exact Zue
  .exact role _ _ h.rhp Pg
  .intro g hg;have :g≠nb:=by rintro rfl;exact O hg
   simp[ρ',this,show m.ownBlock=some g from hg]
  .exact λg hg=>role _ _ (h.rvs g hg) Pg
  .intro j hj;by_cases cK:j=n;·subst cK;simp[ρ']
   .simp only[if_neg cK];simp only[zL,zM,zN]at hj;exact role _ _ (h.rob j Qo) Pg
  .intro j g hj hg;by_cases cK:j=n;·subst cK;simp[Value.ownBlock]at hg
   .simp only[if_neg cK]at hg;simp only[zL,zM,zN]at hj;exact role _ _ (h.rpv j g Qo hg) Pg
  .exact λj hj=>role _ _ (h.rsb j hj) Pg
  .exact λj g hj hg=>role _ _ (h.rnv j g hj hg) Pg
  .intro b dB;by_cases e1:b=nb;·subst e1;exact(Y1.1 ac).1
   .by_cases e:m.ownBlock=some b;·exact(af.lt b e).2
    .exact Zve
 .refine⟨u,y,U,be,λk hk hr=>?_,λk hk hr=>?_,λo Z _=>F o Z,p⟩;·exact E k hk (by rintro rfl;simp[h.rhp]at hr) (by intro e;simp[h.rvo k e.symm]at hr)
  .have h4:k≠nb:=by omega
   have:m.ownBlock≠some k:=λe=>by
    rcases I k e with e|e;·simp[h.rvo k e]at hr
    .omega
   simp only[ρ',if_neg this,if_neg h4];exact hr
end
theorem Tryz.infoPS:(Tryz.prog.info? 106).map (λi=>(i.zero,i.size,i.bytes))=some (some (.pointer none),1,8):=by kernel_rfl
theorem Tryz.infoPO:(Tryz.prog.info? 95).map (λi=>(i.zero,i.size,i.bytes))=some (some (.pointer none),1,8):=by kernel_rfl
theorem Tryz.infoBind:(Tryz.prog.info? 159).map (λi=>(i.zero,i.size,i.bytes))=some (some (.agg #[.string ⟨#[]⟩,vI 0,vI 0,.string ⟨#[]⟩,vI 0,.bool false]),6,64):=by kernel_rfl
theorem Ztw(w:World)(o:Obj)(x:Value)(t:TypeId):∀j u,[x][j]?=some u->((w.alloc o).alloc (.cells #[x] t)).cell? ((⟨w.heap.size+1,0,none⟩:Addr).add j)=some u:=by
 have:=cell_one_new (w.alloc o) x t;rwa[show(w.alloc o).heap.size=w.heap.size+1 by simp]at this
section
variable {ρ:Nat->Option Role}{w:World}{hb ho:Nat}{L:HL}{H:LHeap}
theorem Ze8(h:HeapAt ρ w hb ho L H)(outer object:Int)(hn:H.scopes.length<1099511627776) :
 Calls Tryz.prog 35 #[.pointer (some ⟨hb,ho,none⟩),vI outer,vI object] w λe w'=>e=.returned (vI H.scopes.length)∧
  ∃ρ' L',HeapAt ρ' w' hb ho L' {H with scopes:=H.scopes++[⟨outer,object,[]⟩]}∧Fr ρ ρ' hb ho w w':=by
 obtain⟨i0,hi,aD,bo,bT⟩:=info_parts Tryz.infoPS;have iF:=h.cellS;have r8:=h.frS;have cM:=h.hbLt;have o:=h.rowS;have y:∀g,L.vs.ownBlock=some g->g<w.heap.size:=λg m=>(o.lt g m).2;have E:∀g,L.vs.ownBlock=some g->g≠hb:=λg m e=>by have:=h.rvs g m;rw[e,h.rhp]at this;cases this
 obtain⟨vs,p⟩:=zX L.vs
 obtain⟨sb,aN⟩:=zX (x6 L.sb H.scopes.length)
 obtain⟨n,F⟩:=zX H.scopes.length
 rw[<-p,<-aN]at o;rw[<-p]at iF y E;rw[<-F]at hn o ⊢;have HH:=lh h;have HV:=lh p;have HS:=lh aN;have HN:=lh F;have HO:=lh o;have HL:=lh y;have HR:=lh E;clear h p aN F o y E;have J:∀O U (w1:World),((w.alloc O).alloc U).grownBy w1 vs.ownBlock->w1.cell? ⟨hb,ho+1,none⟩=some vs∧w1.frozen? ⟨hb,ho+1,none⟩=false:=λO U w1 m=>
  ⟨(m.cell_far ⟨hb, ho + 1, none⟩ Pe (fun e => HR.o hb e.symm rfl)).trans ((Zb Pe).trans ((Zb cM).trans iF)),
   (m.frozen_far ⟨hb,ho+1,none⟩ Pe (λe=>HR.o hb e.symm rfl)).trans ((RH Pe).trans ((RH cM).trans r8))⟩
 have HA:=lh J;clear J;go_enter Tryz.func35,Tryz.ntmps35
 go_wp2_with (at_builtin;go_must (refine wpList_append_lies _ rfl (.tmp 11) (.tmp 16) 49 rfl 0 106 i0 (.pointer none) 1 8 Tryz.underlying49 hi aD bo bT rfl Pa vs n sb rfl ((HO.o.alloc _).alloc _) ⟨w.heap.size+1,0,none⟩ 1 1 [vP w.heap.size] rfl rfl (Ztw _ _ _ _) Pj O' Pc O' O' (w.heap.size+2) Pg ?_);intro g cap w1 X I Y Z;obtain⟨jH,tE⟩:=HA.o _ _ _ I;have HG:=lh I;have HW:=lh X;have HT:=lh Y;have uE:=lh Z;clear I X Y Z)
 go_ret;refine⟨Zcp O',?_⟩;have hA:Below w.heap.size w ((w.alloc (.cells #[vI outer,vI object,.slice none 0 0] 111)).alloc (.cells #[vP w.heap.size] 106)):=((Y2 _ _).alloc (Y0 _) _).alloc Pg _;refine Zun ?_;intro aK k1 k2 k3 k4 k5 k6 k7 k8 k9 jI hv yi gU h;refine h.addScope (nb:=w.heap.size) k1 ?_ ?_ (Y0 _) k7 ?_ k2 k3 ?_ ?_ k8 k9 jI;·exact Ztm
 .exact Zur
 .intro b ai ax aX;rw[<-hv]at aX;exact k4 b ai ax aX
 .exact Zwe
 .exact Zsv
end
def LHeap.declare(H:LHeap)(n:Int)(name:ByteArray)(kind:Int)(v:LVal):LHeap×Int:=
 match H.scope? n with
 |none=>(H,7)
 | some s =>
   if 0<=s.object then(H,1)
   else if H.has n name then(H,9)
   else({H with scopes:=H.scopes.set n.toNat {s with names:=s.names++[⟨name,v,kind,!decide (kind=1)&& !decide (kind=2)⟩]}},0)
section
variable {ρ:Nat->Option Role}{w:World}{hb ho:Nat}{L:HL}{H:LHeap}
theorem Zge{w1 w2:World}{m g cap:Nat}{s:LScope}{nv:Value}{b:LBind}{T:TypeId}(h:HeapAt ρ w1 hb ho L H)(E:H.scopes[m]?=some s)(j6:nv=L.nv m)
 (ac:w1.heap[L.sb m]?=some (.cells #[vI s.outer,vI s.object,nv] 111 (0,0)))
 (F:((w1.alloc (.cells b.cells.toArray T)).drew).grownBy w2 nv.ownBlock)
 (af:w2.ownsRow 0 159 6 (.slice (some ⟨g,0,none⟩) (s.names.length+1) cap) (s.names.length+1) (s.names.flatMap LBind.cells++b.cells))
 (fU:nv.ownBlock=some g∨g=w1.heap.size+1) :
 ∃ ρ' O, HeapAt ρ' (w2.setCell ⟨L.sb m, 2, none⟩ (.slice (some ⟨g, 0, none⟩) (s.names.length + 1) cap)) hb ho O { H with scopes := H.scopes.set m { s with names := s.names ++ [b] } } ∧
   Fr ρ ρ' hb ho w1 (w2.setCell ⟨L.sb m,2,none⟩ (.slice (some ⟨g,0,none⟩) (s.names.length+1) cap)):=by
 have I:=getElem?_lt E;have p:Below w1.heap.size w1 ((w1.alloc (.cells b.cells.toArray T)).drew):=((Y2 _ _).alloc (Y0 _) _).drew;have u:L.sb m<w1.heap.size:=(Y1.1 ac).1;have y:nv.ownBlock≠some (L.sb m):=λe=>by
  rw[j6]at e;have o:=h.rnv m _ I e;rw[h.rsb m I]at o;cases o
 have gU:g≠L.sb m:=by
  rcases fU with h'|h';·rintro rfl;exact y h'
  .omega
 have U:vC w1 (L.sb m) 2 nv:=Pd
 obtain⟨k1,k2,k3,X,k5,k6,Y,Z,k9,jI⟩:=WC (.slice (some ⟨g,0,none⟩) (s.names.length+1) cap) p F u y U;have jk:w2.heap[L.sb m]?=some (.cells #[vI s.outer,vI s.object,nv] 111 (0,0)):=
  (F.block _ (Y7 u p.size) (λe=>y e.symm)).trans ((p.block _ u).trans ac)
 refine h.setNames E (nv':=.slice (some ⟨g,0,none⟩) (s.names.length+1) cap) (names':=s.names++[b]) ?_ ?_ Y ?_ ?_ Z k9 jI;·exact Zh _ jk
 .exact Zua
 .intro b' o h2 J;rw[<-j6]at J;exact X b' o h2 J
 .exact Zw6
theorem Zg7(h:HeapAt ρ w hb ho L H)(m:Nat)(s:LScope)(name:ByteArray)(kind:Int)(vk vn:Int)(vs:ByteArray)(hm:H.scopes[m]?=some s)(aV:¬0<=s.object)(fk:H.has (m:Int) name=false)(g:s.names.length<1099511627776)
 (p:((kind:Int) !=1)=false) :
 Calls Tryz.prog 43 #[.pointer (some ⟨hb,ho,none⟩),vI m,.string name,vI kind,.agg #[vI vk,vI vn,.string vs]] w λe w'=>e=.returned (df 0)∧
  ∃ρ' L',HeapAt ρ' w' hb ho L' {H with scopes:=H.scopes.set m {s with names:=s.names++[⟨name,⟨vk,vn,vs⟩,kind,false⟩]}}∧Fr ρ ρ' hb ho w w':=by
 exact tq4
theorem Zfy(h:HeapAt ρ w hb ho L H)(m:Nat)(s:LScope)(name:ByteArray)(kind:Int)(vk vn:Int)(vs:ByteArray)(hm:H.scopes[m]?=some s)(aV:¬0<=s.object)(fk:H.has (m:Int) name=false)(g:s.names.length<1099511627776)
 (p:((kind:Int) !=1)=true)(u:((kind:Int) !=2)=false) :
 Calls Tryz.prog 43 #[.pointer (some ⟨hb,ho,none⟩),vI m,.string name,vI kind,.agg #[vI vk,vI vn,.string vs]] w λe w'=>e=.returned (df 0)∧
  ∃ρ' L',HeapAt ρ' w' hb ho L' {H with scopes:=H.scopes.set m {s with names:=s.names++[⟨name,⟨vk,vn,vs⟩,kind,false⟩]}}∧Fr ρ ρ' hb ho w w':=by
 exact tq4
theorem Zfx(h:HeapAt ρ w hb ho L H)(m:Nat)(s:LScope)(name:ByteArray)(kind:Int)(vk vn:Int)(vs:ByteArray)(hm:H.scopes[m]?=some s)(aV:¬0<=s.object)(p:H.has (m:Int) name=false)(Y:s.names.length<1099511627776)
 (Z:((kind:Int) !=1)=true)(k2:((kind:Int) !=2)=true) :
 Calls Tryz.prog 43 #[.pointer (some ⟨hb,ho,none⟩),vI m,.string name,vI kind,.agg #[vI vk,vI vn,.string vs]] w λe w'=>e=.returned (df 0)∧
  ∃ρ' g,HeapAt ρ' w' hb ho g {H with scopes:=H.scopes.set m {s with names:=s.names++[⟨name,⟨vk,vn,vs⟩,kind,true⟩]}}∧Fr ρ ρ' hb ho w w':=by
 have y:=h.hbLt;have fy:∀b,ρ b≠none->b<w.heap.size:=h.live;refine SG ?_;intro h1 cE;refine TJ ?_;intro jH;have E:=lh (SK h1 m (getElem?_lt hm));have u:=lh (Tg h1 (m:Int) name);rw[p]at u;obtain⟨i0,hi,F,I,J⟩:=info_parts Tryz.infoBind;have HH:=lh h1;have HB:=lh cE;have HM:=lh hm;clear h h1 cE hm p;go_enter Tryz.func43,Tryz.ntmps43
 go_wp2_with fail
 refine E.o.mono ?_;rintro e w1⟨rfl,rfl⟩;go_wp2_with fail
 refine u.o.mono ?_;rintro e w1⟨rfl,hB⟩;obtain⟨q0,q1,q2,f0,f1,f2,hs,dx⟩:=WI hB;have fj:=HH.o.below hB;obtain⟨ac,af⟩:=fj.scp m s HM.o;obtain⟨nv,j6⟩:=zX (L.nv m)
 rw[<-j6]at ac af;refine YP ?_;clear hB dx fj ac af j6;intro aN d2 kL eW qP HO HN te av qQ;go_wp2_with fail
 refine Z8 [0,2,4,6,8,10,12,14,16,18,20,22,24,26,28,31,33] [17,18,19] (λW=>vC W (L.sb m) 2 nv∧vC W w.heap.size 0 (vI vk)∧vC W w.heap.size 1 (vI vn)∧vC W w.heap.size 2 (.string vs)) ⟨d2,q0,q1,q2⟩ λ_=>?_;refine dW ?_
 iterate 15
  refine dV ?_
 refine Zqo ?_;intro K hK;refine step_append_lies _ Po (.tmp 40) (.tmp 51) 109 Po 0 159 i0 _ 6 64 Tryz.underlying109 hi F I J rfl Pa nv s.names.length (s.names.flatMap LBind.cells) Po ((HO.o.alloc _).drew) ⟨w1.heap.size,0,none⟩ 1 1 (LBind.cells ⟨name,⟨vk,vn,vs⟩,kind,true⟩) Po rfl (Ya (cs:=(LBind.cells ⟨name,⟨vk,vn,vs⟩,kind,true⟩).toArray) (t:=159) (fr:=(0,0)) (heap_alloc_new w1 _)) (by simp[LBind.cells,Value.oneCell']) Pa Pc O' O' (w1.heap.size+1) Pg ?_
 refine Xt ?_;clear hK K;intro gg cap w2 rH e2 HG HW HT uE;go_wp2;go_ret;refine⟨rfl,?_⟩;have O:=Zge (b:=⟨name,⟨vk,vn,vs⟩,kind,true⟩) eW.o HM.o HN.o qP.o HG.o HW.o HT.o;obtain⟨ρ',g,U,X⟩:=O;exact⟨ρ',g,U,(Fr.of_below y av.o).trans X⟩
theorem Za0(h:HeapAt ρ w hb ho L H)(n:Int)(name:ByteArray)(kind:Int)(v:LVal)(g:∀(m:Nat) (s:LScope),H.scopes[m]?=some s->s.names.length<1099511627776) :
 Calls Tryz.prog 43 #[.pointer (some ⟨hb,ho,none⟩),vI n,.string name,vI kind,v.agg] w λe w'=>e=.returned (df (H.declare n name kind v).2)∧
  ∃ρ' I,HeapAt ρ' w' hb ho I (H.declare n name kind v).1∧Fr ρ ρ' hb ho w w':=by
 have cM:=h.hbLt;have J:∀b,ρ b≠none->b<w.heap.size:=h.live;obtain⟨vk,vn,vs⟩:=v;simp only[LVal.agg];refine SG ?_;intro h1 cE;rcases hob:H.scope? n with _|s
 .have HC:=lh (T5 h1 n hob);have hd:H.declare n name kind ⟨vk,vn,vs⟩=(H,7):=by simp[LHeap.declare,hob]
  rw[hd];have HH:=lh h1;have HB:=lh cE;clear h h1 hob g hd cE;go_enter Tryz.func43,Tryz.ntmps43
  exact R8
 .obtain⟨m,rfl,hm⟩:=LHeap.scope?_some hob;refine TJ ?_;intro jH;have HC:=lh (SK h1 m (getElem?_lt hm));by_cases aV:0<=s.object
  .have hd:H.declare m name kind ⟨vk,vn,vs⟩=(H,1):=by simp[LHeap.declare,hob,aV]
   rw[hd];have HH:=lh h1;have HB:=lh cE;clear h h1 hob g hd cE hm;go_enter Tryz.func43,Tryz.ntmps43
   exact R8
  .have y:=lh (Tg h1 (m:Int) name);by_cases hq:H.has (m:Int) name=true
   .have hd:H.declare m name kind ⟨vk,vn,vs⟩=(H,9):=by simp[LHeap.declare,hob,aV,hq]
    rw[hd];rw[hq]at y;have HH:=lh h1;have HB:=lh cE;clear h h1 hob g hd cE hm hq;go_enter Tryz.func43,Tryz.ntmps43
    go_wp2_with fail
    refine HC.o.mono ?_;rintro e w1⟨rfl,rfl⟩;go_wp2_with fail
    refine y.o.mono ?_;rintro e w1⟨rfl,E⟩;have F:=lh E;clear E;go_wp2;go_ret;exact⟨rfl,ρ,L,HH.o.below F.o,Fr.of_below cM (HB.o.trans (F.o.mono HB.o.size))⟩
   .have o:H.has (m:Int) name=false:=by simpa using hq
    have hd:H.declare m name kind ⟨vk,vn,vs⟩=({H with scopes:=H.scopes.set m {s with names:=s.names++[⟨name,⟨vk,vn,vs⟩,kind,!decide (kind=1)&& !decide (kind=2)⟩]}},0):=by simp[LHeap.declare,hob,aV,o]
    rw[hd];have u:=g m s hm;by_cases k1:kind=1
    .have e:(!decide (kind=1)&& !decide (kind=2))=false:=by simp[k1]
     rw[e];exact Zg7 h m s name kind vk vn vs hm aV o u Rw
    .by_cases p:kind=2
     .have e:(!decide (kind=1)&& !decide (kind=2))=false:=by simp[p]
      rw[e];exact Zfy h m s name kind vk vn vs hm aV o u Rw (by simp[p])
     .have e:(!decide (kind=1)&& !decide (kind=2))=true:=by simp[k1,p]
      rw[e];exact Zfx h m s name kind vk vn vs hm aV o u Rw (by simp[p])
end
def LHeap.put(H:LHeap)(n:Int)(name:ByteArray)(v:LVal)(fixed:Bool):LHeap×Int:=
 match H.object? n with
 |none=>(H,7)
 | some o =>
   match o.idx name with
   |some k=>({H with objects:=H.objects.set n.toNat {o with props:=o.props.modify k λp=>{p with v:=v}}},0)
   |none=>({H with objects:=H.objects.set n.toNat {o with props:=o.props++[⟨name,v,fixed⟩]}},0)
theorem Tryz.infoProp:(Tryz.prog.info? 103).map (λi=>(i.zero,i.size,i.bytes))=some (some (.agg #[.string ⟨#[]⟩,vI 0,vI 0,.string ⟨#[]⟩,.bool false]),5,56):=by kernel_rfl
theorem Z88{w:World}{base:Nat}{e:TypeId}{m:Nat}{g cap n:Nat}{α:Type}{f:α->List Value}{l:List α}(hf:∀a,(f a).length=m)
 (h:w.ownsRow base e m (.slice (some ⟨g,0,none⟩) n cap) n (l.flatMap f)){k:Nat}{a a':α}(hk:l[k]?=some a){j:Nat}(F:j+2<m){x y z:Value}
 (u:f a'=(((f a).set j x).set (j+1) y).set (j+2) z) :
 (((w.setCell ⟨g,k*m+j,none⟩ x).setCell ⟨g,k*m+j+1,none⟩ y).setCell ⟨g,k*m+j+2,none⟩ z).ownsRow base e m (.slice (some ⟨g,0,none⟩) n cap) n ((l.set k a').flatMap f):=by
 have o:=((((h.stored (k * m + j) x).1.stored (k * m + j + 1) y).1).stored (k * m + j + 2) z).1;have p:=getElem?_lt hk;have:(l.set k a').flatMap f=(((l.flatMap f).set (k * m + j) x).set (k * m + j + 1) y).set (k * m + j + 2) z:=by
  clear h o;induction l generalizing k with
  |nil=>simp at p
  | cons b l E =>
    cases k with
    | zero =>
      simp only[List.getElem?_cons_zero,Option.some.injEq]at hk;subst hk;simp only[List.set_cons_zero,List.flatMap_cons,Nat.zero_mul,Nat.zero_add];rw[List.set_append_left _ _ (by rw[hf];omega),List.set_append_left _ _ QH,List.set_append_left _ _ QH,u]
    | succ k =>
      simp only[List.getElem?_cons_succ]at hk;simp only[List.set_cons_succ,List.flatMap_cons];have e:(k+1)*m+j=(f b).length+(k*m+j):=QM
      rw[e,List.set_append_right _ _ O',Nat.add_sub_cancel_left,List.set_append_right _ _ O',List.set_append_right _ _ O'];rw[show(f b).length+(k*m+j)+1-(f b).length=k*m+j+1 by omega,show(f b).length+(k*m+j)+2-(f b).length=k*m+j+2 by omega];rw[E hk (by simpa using p)]
 rw[this];exact o
theorem Zj7{α:Type}{l:List α}{k:Nat}{a:α}(f:α->α)(h:l[k]?=some a):l.modify k f=l.set k (f a):=by
 induction l generalizing k with
 |nil=>simp at h
 | cons b l g =>
   cases k with
   |zero=>simp only[List.getElem?_cons_zero,Option.some.injEq]at h;subst h;rfl
   |succ k=>simp only[List.getElem?_cons_succ]at h;simp[List.modify_succ_cons,g h]
section
variable {ρ:Nat->Option Role}{w:World}{hb ho:Nat}{L:HL}{H:LHeap}
theorem Zs4{w1:World}{m k g c:Nat}{o:LObj}{p:LProp}{vk vn:Int}{vs:ByteArray}(h:HeapAt ρ w1 hb ho L H)(u:H.objects[m]?=some o)(hp:o.props[k]?=some p)
 (hv:L.pv m=.slice (some ⟨g,0,none⟩) o.props.length c) :
 ∃ ρ' J, HeapAt ρ' (((w1.setCell ⟨g, k * 5 + 1, none⟩ (vI vk)).setCell ⟨g, k * 5 + 1 + 1, none⟩ (vI vn)).setCell ⟨g, k * 5 + 1 + 2, none⟩ (.string vs)) hb ho J { H with objects := H.objects.set m { o with props := o.props.set k { p with v := ⟨vk, vn, vs⟩ } } } ∧
   Fr ρ ρ' hb ho w1 (((w1.setCell ⟨g,k*5+1,none⟩ (vI vk)).setCell ⟨g,k*5+1+1,none⟩ (vI vn)).setCell ⟨g,k*5+1+2,none⟩ (.string vs)):=by
 have E:=getElem?_lt u;obtain⟨O,F⟩:=h.obj m o u;have U:g≠L.ob m:=λe=>by
  have I:=h.rpv m g E Pv;rw[e,h.rob m E]at I;cases I
 rw[hv]at F;have hst:=Z88 (f:=LProp.cells) (m:=5) (λ_=>rfl) F hp (j:=1) O' (x:=(vI vk)) (y:=(vI vn)) (z:=.string vs) (a':={p with v:=⟨vk,vn,vs⟩}) rfl;have far:∀b,b≠g->(((w1.setCell ⟨g,k*5+1,none⟩ (vI vk)).setCell ⟨g,k*5+1+1,none⟩ (vI vn)).setCell ⟨g,k*5+1+2,none⟩ (.string vs)).heap[b]?=w1.heap[b]?:=λb hb=>by
  exact Zva
 refine h.setProps u (nv':=.slice (some ⟨g,0,none⟩) o.props.length c) (props':=o.props.set k {p with v:=⟨vk,vn,vs⟩}) ?_ ?_ Pg ?_ ?_ rfl rfl rfl;·rw[far _ (Ne.symm U),<-hv];exact O
 .simp only[List.length_set];exact hst
 .exact Zr7
 .intro Y X;rw[hv];exact .inl X
theorem Zrx{w1 w2:World}{m g cap:Nat}{o:LObj}{nv:Value}{b:LProp}{T:TypeId}(h:HeapAt ρ w1 hb ho L H)(F:H.objects[m]?=some o)(j6:nv=L.pv m)
 (ac:w1.heap[L.ob m]?=some (.cells #[nv,vI o.code] 98 (0,0)))
 (I:((w1.alloc (.cells b.cells.toArray T)).drew).grownBy w2 nv.ownBlock)
 (af:w2.ownsRow 0 103 5 (.slice (some ⟨g,0,none⟩) (o.props.length+1) cap) (o.props.length+1) (o.props.flatMap LProp.cells++b.cells))
 (fU:nv.ownBlock=some g∨g=w1.heap.size+1) :
 ∃ ρ' U, HeapAt ρ' (w2.setCell ⟨L.ob m, 0, none⟩ (.slice (some ⟨g, 0, none⟩) (o.props.length + 1) cap)) hb ho U { H with objects := H.objects.set m { o with props := o.props ++ [b] } } ∧
   Fr ρ ρ' hb ho w1 (w2.setCell ⟨L.ob m,0,none⟩ (.slice (some ⟨g,0,none⟩) (o.props.length+1) cap)):=by
 have J:=getElem?_lt F;have u:Below w1.heap.size w1 ((w1.alloc (.cells b.cells.toArray T)).drew):=((Y2 _ _).alloc (Y0 _) _).drew;have y:L.ob m<w1.heap.size:=(Y1.1 ac).1;have E:nv.ownBlock≠some (L.ob m):=λe=>by
  rw[j6]at e;have p:=h.rpv m _ J e;rw[h.rob m J]at p;cases p
 have gU:g≠L.ob m:=by
  rcases fU with h'|h';·rintro rfl;exact E h'
  .omega
 have X:vC w1 (L.ob m) 0 nv:=Pd
 obtain⟨k1,k2,k3,Y,k5,k6,Z,k8,k9,jI⟩:=WC (.slice (some ⟨g,0,none⟩) (o.props.length+1) cap) u I y E X;have jk:w2.heap[L.ob m]?=some (.cells #[nv,vI o.code] 98 (0,0)):=
  (I.block _ (Y7 y u.size) (λe=>E e.symm)).trans ((u.block _ y).trans ac)
 refine h.setProps F (nv':=.slice (some ⟨g,0,none⟩) (o.props.length+1) cap) (props':=o.props++[b]) ?_ ?_ Z ?_ ?_ k8 k9 jI;·exact Zh _ jk
 .exact Zua
 .intro b' p h2 O;rw[<-j6]at O;exact Y b' p h2 O
 .exact Zw6
theorem Zk0(h:HeapAt ρ w hb ho L H)(n:Int)(name:ByteArray)(v:LVal)(fixed:Bool)(U:∀(m:Nat) (o:LObj),H.objects[m]?=some o->o.props.length<1099511627776) :
 Calls Tryz.prog 14 #[.pointer (some ⟨hb,ho,none⟩),vI n,.string name,v.agg,.bool fixed] w λe w'=>e=.returned (df (H.put n name v fixed).2)∧
  ∃ρ' E,HeapAt ρ' w' hb ho E (H.put n name v fixed).1∧Fr ρ ρ' hb ho w w':=by
 have cM:=h.hbLt;have fy:∀b,ρ b≠none->b<w.heap.size:=h.live;obtain⟨vk,vn,vs⟩:=v;simp only[LVal.agg];refine SG ?_;intro h1 cE;rcases hob:H.object? n with _|o
 .have HC:=lh (Z7p h1 n hob);have hd:H.put n name ⟨vk,vn,vs⟩ fixed=(H,7):=by simp[LHeap.put,hob]
  rw[hd];have HH:=lh h1;have HB:=lh cE;clear h h1 hob U hd cE;go_enter Tryz.func14,Tryz.ntmps14
  exact R8
 .obtain⟨m,rfl,hm⟩:=LHeap.object?_some hob;have X:=getElem?_lt hm;have HC:=lh (Z6w h1 m X);have Y:=lh (Zc1 h1 m o hm name);have ik:=U m o hm;rcases hk:o.idx name with _|k
  .have hd:H.put m name ⟨vk,vn,vs⟩ fixed=({H with objects:=H.objects.set m {o with props:=o.props++[⟨name,⟨vk,vn,vs⟩,fixed⟩]}},0):=by simp[LHeap.put,hob,hk]
   rw[hd];rw[hk]at Y;obtain⟨i0,hi,aD,bo,bT⟩:=info_parts Tryz.infoProp;have HH:=lh h1;have F:=lh hm;clear h h1 hob U hd cE hm hk;go_enter Tryz.func14,Tryz.ntmps14
   go_wp2_with fail
   refine HC.o.mono ?_;rintro e w1⟨rfl,rfl⟩;go_wp2_with fail
   refine Y.o.mono ?_;rintro e w1⟨rfl,hB⟩;simp only[tL];obtain⟨q0,q1,q2,f0,f1,f2,hs,I⟩:=WI hB;have u:=HH.o.below hB;obtain⟨ac,y⟩:=u.obj m o F.o;obtain⟨nv,J⟩:=zX (L.pv m)
   rw[<-J]at ac y;have aN:L.ob m<w1.heap.size:=(Y1.1 ac).1;have d2:vC w1 (L.ob m) 0 nv:=Pd
   have kL:w1.frozen? ⟨L.ob m,0,none⟩=false:=PK
   have pj:nv.ownBlock≠some (L.ob m):=λe=>by
    rw[J]at e;have h1:=u.rpv m _ X e;rw[u.rob m X]at h1;cases h1
   have qQ:Hid (nv.ownBlock≠some w.heap.size):=λe=>by
    have h2:=HH.o.rpv m w.heap.size X (by rw[<-J];exact e);exact absurd (fy w.heap.size (by rw[h2];simp)) O'
   have eW:=lh u;have qP:=lh ac;have HO:=lh y;have HN:=lh J;have te:=lh pj;have av:=lh I;clear hB I u ac y J pj;go_wp2_with fail
   refine Z8 [0,2,4,6,8,10,12,14,16,19,21] [11,12,13] (λW=>vC W (L.ob m) 0 nv∧vC W w.heap.size 0 (vI vk)∧vC W w.heap.size 1 (vI vn)∧vC W w.heap.size 2 (.string vs)) ⟨d2,q0,q1,q2⟩ λ_=>?_;refine dW ?_
   iterate 9
    refine dV ?_
   refine Zqo ?_;intro K hK;refine step_append_lies _ Po (.tmp 40) (.tmp 45) 96 Po 0 103 i0 _ 5 56 Tryz.underlying96 hi aD bo bT rfl Pa nv o.props.length (o.props.flatMap LProp.cells) Po ((HO.o.alloc _).drew) ⟨w1.heap.size,0,none⟩ 1 1 (LProp.cells ⟨name,⟨vk,vn,vs⟩,fixed⟩) Po rfl (Ya (cs:=(LProp.cells ⟨name,⟨vk,vn,vs⟩,fixed⟩).toArray) (t:=103) (fr:=(0,0)) (heap_alloc_new w1 _)) (by simp[LProp.cells,Value.oneCell']) Pa Pc O' O' (w1.heap.size+1) Pg ?_
   intro gg cap w2 aM Z ch iq;have O:∀b o,b<w1.heap.size->nv.ownBlock≠some b->w2.cell? ⟨b,o,none⟩=w1.cell? ⟨b,o,none⟩:=λb o ai ax=>(Z.cell_far ⟨b,o,none⟩ Pe (λe=>ax e.symm)).trans (Zb ai);have rH:w2.frozen? ⟨L.ob m,0,none⟩=false:=(Z.frozen_far ⟨L.ob m,0,none⟩ Pe (λe=>te.o e.symm)).trans ((RH aN).trans kL);have e2:=(O _ 0 aN te.o).trans d2;refine hK _ _ ⟨e2,(O _ 0 hs qQ.o).trans q0,(O _ 1 hs qQ.o).trans q1,(O _ 2 hs qQ.o).trans q2⟩ ?_;clear hK K
   simp only[Act.put,zA,zB,zC];have HG:=lh Z;have HW:=lh aM;have HT:=lh ch;clear Z aM ch iq O;refine Z0 ?_;go_wp2;go_ret;refine⟨rfl,?_⟩;obtain⟨ρ',E,hA,hF⟩:=Zrx (b:=⟨name,⟨vk,vn,vs⟩,fixed⟩) eW.o F.o HN.o qP.o HG.o HW.o HT.o;exact⟨ρ',E,hA,(Fr.of_below cM av.o).trans hF⟩
  .obtain⟨p,hp,_⟩:=LObj.idx_some hk;have ba:=getElem?_lt hp;have hd:H.put m name ⟨vk,vn,vs⟩ fixed=({H with objects:=H.objects.set m {o with props:=o.props.set k {p with v:=⟨vk,vn,vs⟩}}},0):=by
    simp only[LHeap.put,hob,hk,Int.toNat_natCast];rw[Zj7 _ hp]
   rw[hd];rw[hk]at Y;obtain⟨pP,iI⟩:=h1.obj m o hm;rcases Z4 iI with⟨hv,hz⟩|⟨g,c,hv,h2,h3,cY⟩;·omega
   unfold maxLen at h3;have HH:=lh h1;have F:=lh hm;have HP:=lh hp;have HV:=lh hv;clear h h1 hob U hd cE hm hk pP iI hp hv;go_enter Tryz.func14,Tryz.ntmps14
   go_wp2_with fail
   refine HC.o.mono ?_;rintro e w1⟨rfl,rfl⟩;go_wp2_with fail
   refine Y.o.mono ?_;rintro e w1⟨rfl,hB⟩;simp only[tL];obtain⟨q0,q1,q2,f0,f1,f2,hs,I⟩:=WI hB;have u:=HH.o.below hB;obtain⟨ac,y⟩:=u.obj m o F.o;have d2:vC w1 (L.ob m) 0 (.slice (some ⟨g,0,none⟩) o.props.length c):=by rw[<-HV.o];simp[vC,World.cell?,ac]
   have ae:=λj x=>Md (f:=LProp.cells) (m:=5) (λ_=>rfl) y (g:=g) Qk (i:=k) (j:=j) (x:=x) HP.o;have r1:=ae 1 _ rfl;have r2:=ae 2 _ rfl;have r3:=ae 3 _ rfl;have z1:=Tb y (g:=g) Qk (k*5+1);have z2:=Tb y (g:=g) Qk (k*5+1+1);have z3:=Tb y (g:=g) Qk (k*5+1+2);have eW:=lh u;have av:=lh I;clear hB I u ac y ae;go_wp2_with fail
   refine Z8 [0,2,4,6,8,10] [6,7,8] (λW=>vC W (L.ob m) 0 (.slice (some ⟨g,0,none⟩) o.props.length c)∧vC W w.heap.size 0 (vI vk)∧vC W w.heap.size 1 (vI vn)∧vC W w.heap.size 2 (.string vs)) ⟨d2,q0,q1,q2⟩ λ_=>?_;refine dW ?_
   iterate 6
    refine dV ?_
   refine Z0 ?_;go_wp2;go_ret;refine⟨rfl,?_⟩;obtain⟨ρ',E,hA,hF⟩:=Zs4 (vk:=vk) (vn:=vn) (vs:=vs) eW.o F.o HP.o HV.o;refine⟨ρ',E,?_,?_⟩;·exact hA.drew
   .exact((Fr.of_below cM av.o).trans hF).drew
end
def LHeap.setNames(H:LHeap)(m:Nat)(s:LScope)(l:List LBind):LHeap:={H with scopes:=H.scopes.set m {s with names:=l}}
def LHeap.write (H:LHeap) (n:Int) (name:ByteArray) (v:LVal):LHeap×Int:=
 match H.scope? n with
 |none=>(H,7)
 | some s =>
   if s.object < 0 then
    match s.idx name with
    |none=>(H,7)
    | some k =>
      match s.names[k]? with
      |none=>(H,7)
      | some b =>
        if b.ready=false then(H,6)
        else if b.kind=2 then(H,1)
        else if b.kind=3 then(H,5)
        else(H.setNames n.toNat s (s.names.set k {b with v:=v}),0)
   else if(H.get s.object name).isSome then H.put s.object name v false else(H,7)
section
variable {ρ:Nat->Option Role}{w:World}{hb ho:Nat}{L:HL}{H:LHeap}
theorem Zlg{w1:World}{m k g c:Nat}{s:LScope}{b:LBind}{vk vn:Int}{vs:ByteArray}(h:HeapAt ρ w1 hb ho L H)(o:H.scopes[m]?=some s)(hp:s.names[k]?=some b)
 (hv:L.nv m=.slice (some ⟨g,0,none⟩) s.names.length c) :
 ∃ ρ' F, HeapAt ρ' (((w1.setCell ⟨g, k * 6 + 1, none⟩ (vI vk)).setCell ⟨g, k * 6 + 1 + 1, none⟩ (vI vn)).setCell ⟨g, k * 6 + 1 + 2, none⟩ (.string vs)) hb ho F (H.setNames m s (s.names.set k { b with v := ⟨vk, vn, vs⟩ })) ∧
   Fr ρ ρ' hb ho w1 (((w1.setCell ⟨g,k*6+1,none⟩ (vI vk)).setCell ⟨g,k*6+1+1,none⟩ (vI vn)).setCell ⟨g,k*6+1+2,none⟩ (.string vs)):=by
 have p:=getElem?_lt o;obtain⟨I,u⟩:=h.scp m s o;have J:g≠L.sb m:=λe=>by
  have E:=h.rnv m g p Pv;rw[e,h.rsb m p]at E;cases E
 rw[hv]at u;have hst:=Z88 (f:=LBind.cells) (m:=6) (λ_=>rfl) u hp (j:=1) O' (x:=(vI vk)) (y:=(vI vn)) (z:=.string vs) (a':={b with v:=⟨vk,vn,vs⟩}) rfl;have far:∀b,b≠g->(((w1.setCell ⟨g,k*6+1,none⟩ (vI vk)).setCell ⟨g,k*6+1+1,none⟩ (vI vn)).setCell ⟨g,k*6+1+2,none⟩ (.string vs)).heap[b]?=w1.heap[b]?:=λb hb=>by
  exact Zva
 refine h.setNames o (nv':=.slice (some ⟨g,0,none⟩) s.names.length c) (names':=s.names.set k {b with v:=⟨vk,vn,vs⟩}) ?_ ?_ Pg ?_ ?_ rfl rfl rfl;·rw[far _ (Ne.symm J),<-hv];exact I
 .simp only[List.length_set];exact hst
 .exact Zr7
 .intro U O;rw[hv];exact .inl O
theorem Zit(h:HeapAt ρ w hb ho L H)(m:Nat)(s:LScope)(name:ByteArray)(k:Nat)(b:LBind)(vk vn:Int)(vs:ByteArray)(hm:H.scopes[m]?=some s)(aV:s.object<0)(hk:s.idx name=some k)(hp:s.names[k]?=some b)(hr:b.ready=false) :
 Calls Tryz.prog 122 #[.pointer (some ⟨hb,ho,none⟩),vI m,.string name,.agg #[vI vk,vI vn,.string vs]] w λe w'=>e=.returned (df 6)∧
  ∃ρ' o,HeapAt ρ' w' hb ho o H∧Fr ρ ρ' hb ho w w':=by
 refine Ua ?_;intro cM dj ba h1 hob cS HC;rw[cS]at HC;rcases Z4 h.rowS with⟨dI,u⟩|⟨gs,cs,dI,F,y,I⟩;·omega
 unfold maxLen at y;refine RZ ?_;intro ap;obtain⟨_,af⟩:=h.scp m s hm;rcases Z4 af with⟨hv,u⟩|⟨g,c,hv,J,E,O⟩;·omega
 unfold maxLen at E;obtain⟨pn,⟨pk,pm,ps⟩,uN,U⟩:=b;refine TA ?_;intro ae bz HF HR HZ bB;rw[hk,hv]at bB;simp only[R',Value.ownBlock,Option.map_some]at bB;have HH:=lh h1;have X:=lh hm;have Y:=lh hp;have Z:=lh hv;simp only at hr;exact Vx
theorem Zfv(h:HeapAt ρ w hb ho L H)(m:Nat)(s:LScope)(name:ByteArray)(k:Nat)(b:LBind)(vk vn:Int)(vs:ByteArray)(hm:H.scopes[m]?=some s)(aV:s.object<0)(hk:s.idx name=some k)(hp:s.names[k]?=some b)(hr:b.ready=true)(o:(b.kind==2)=true) :
 Calls Tryz.prog 122 #[.pointer (some ⟨hb,ho,none⟩),vI m,.string name,.agg #[vI vk,vI vn,.string vs]] w λe w'=>e=.returned (df 1)∧
  ∃ρ' u,HeapAt ρ' w' hb ho u H∧Fr ρ ρ' hb ho w w':=by
 refine Ua ?_;intro cM dj ba h1 hob cS HC;rw[cS]at HC;rcases Z4 h.rowS with⟨dI,y⟩|⟨gs,cs,dI,I,E,J⟩;·omega
 unfold maxLen at E;refine RZ ?_;intro ap;obtain⟨_,af⟩:=h.scp m s hm;rcases Z4 af with⟨hv,y⟩|⟨g,c,hv,O,F,U⟩;·omega
 unfold maxLen at F;obtain⟨pn,⟨pk,pm,ps⟩,uN,X⟩:=b;refine TA ?_;intro ae bz HF HR HZ bB;rw[hk,hv]at bB;simp only[R',Value.ownBlock,Option.map_some]at bB;have HH:=lh h1;have Y:=lh hm;have Z:=lh hp;have HV:=lh hv;simp only at hr o;exact Vx
theorem Zlh(h:HeapAt ρ w hb ho L H)(m:Nat)(s:LScope)(name:ByteArray)(k:Nat)(b:LBind)(vk vn:Int)(vs:ByteArray)(hm:H.scopes[m]?=some s)(aV:s.object<0)(hk:s.idx name=some k)(hp:s.names[k]?=some b)(hr:b.ready=true)(o:(b.kind==2)=false)(u:(b.kind==3)=true) :
 Calls Tryz.prog 122 #[.pointer (some ⟨hb,ho,none⟩),vI m,.string name,.agg #[vI vk,vI vn,.string vs]] w λe w'=>e=.returned (df 5)∧
  ∃ρ' y,HeapAt ρ' w' hb ho y H∧Fr ρ ρ' hb ho w w':=by
 refine Ua ?_;intro cM dj ba h1 hob cS HC;rw[cS]at HC;rcases Z4 h.rowS with⟨dI,E⟩|⟨gs,cs,dI,J,F,O⟩;·omega
 unfold maxLen at F;refine RZ ?_;intro ap;obtain⟨_,af⟩:=h.scp m s hm;rcases Z4 af with⟨hv,E⟩|⟨g,c,hv,U,I,X⟩;·omega
 unfold maxLen at I;obtain⟨pn,⟨pk,pm,ps⟩,uN,Y⟩:=b;refine TA ?_;intro ae bz HF HR HZ bB;rw[hk,hv]at bB;simp only[R',Value.ownBlock,Option.map_some]at bB;have HH:=lh h1;have Z:=lh hm;have HP:=lh hp;have HV:=lh hv;simp only at hr o u;exact Vx
theorem Zmv(h:HeapAt ρ w hb ho L H)(m:Nat)(s:LScope)(name:ByteArray)(k:Nat)(b:LBind)(vk vn:Int)(vs:ByteArray)(hm:H.scopes[m]?=some s)(aV:s.object<0)(hk:s.idx name=some k)(hp:s.names[k]?=some b)(hr:b.ready=true)(y:(b.kind==2)=false)(E:(b.kind==3)=false) :
 Calls Tryz.prog 122 #[.pointer (some ⟨hb,ho,none⟩),vI m,.string name,.agg #[vI vk,vI vn,.string vs]] w λe w'=>e=.returned (df 0)∧
  ∃ρ' o,HeapAt ρ' w' hb ho o (H.setNames m s (s.names.set k {b with v:=⟨vk,vn,vs⟩}))∧Fr ρ ρ' hb ho w w':=by
 refine Ua ?_;intro cM dj ba h1 hob cS HC;rw[cS]at HC;rcases Z4 h.rowS with⟨dI,F⟩|⟨gs,cs,dI,aG,I,pB⟩;·omega
 unfold maxLen at I;refine RZ ?_;intro ap;obtain⟨_,u⟩:=h.scp m s hm;rcases Z4 u with⟨hv,F⟩|⟨g,c,hv,h2,J,cY⟩;·omega
 unfold maxLen at J;obtain⟨pn,⟨pk,pm,ps⟩,O,uQ⟩:=b;refine TA ?_;intro ae bz HF HR HZ bB;rw[hk,hv]at bB;simp only[R',Value.ownBlock,Option.map_some]at bB;have HH:=lh h1;have U:=lh hm;have X:=lh hp;have Y:=lh hv;simp only at hr y E;subst hr;clear h h1 hob cS hm dI ap hk hp u hv ae bz;go_enter Tryz.func122,Tryz.ntmps122
 go_wp2_with fail
 refine SN ?_;intro w1 q0 q1 q2 f0 f1 f2 hs d0 d1 d2 eW HB;go_wp2_with fail
 refine Ve ?_;intro w2 au fE r0 r1 r2 r3;have r4:=HR.o w2 fE 4 (vI O) rfl;have z1:=HZ.o w2 fE (k*6+1);have z2:=HZ.o w2 fE (k*6+1+1);have z3:=HZ.o w2 fE (k*6+1+2);refine Te ?_;intro mq jw nS;have Z:=lh fE;have aO:=lh (HB.o.trans (au.mono (Nat.le_of_lt hs)));clear au fE q0 q1 q2 f0 f1 f2 d0 d1 d2;go_wp2;go_ret;refine⟨rfl,?_⟩;obtain⟨ρ',o,hA,hF⟩:=Zlg (vk:=vk) (vn:=vn) (vs:=vs) Z.o U.o X.o Y.o;exact⟨ρ',o,hA,(Fr.of_below cM aO.o).trans hF⟩
theorem Zkx(h:HeapAt ρ w hb ho L H)(n:Int)(name:ByteArray)(v:LVal)(O:∀(m:Nat) (o:LObj),H.objects[m]?=some o->o.props.length<1099511627776) :
 Calls Tryz.prog 122 #[.pointer (some ⟨hb,ho,none⟩),vI n,.string name,v.agg] w λe w'=>e=.returned (df (H.write n name v).2)∧
  ∃ρ' U,HeapAt ρ' w' hb ho U (H.write n name v).1∧Fr ρ ρ' hb ho w w':=by
 have X:=h.hbLt;obtain⟨vk,vn,vs⟩:=v;simp only[LVal.agg];have u:=h.below ((Y2 _ _).alloc (Y0 _) (.cells #[vI vk,vI vn,.string vs] 55));by_cases hq:H.has n name=true
 .obtain⟨s,hob,E⟩:∃s,H.scope? n=some s∧(if s.object<0 then(s.idx name).isSome else(H.get s.object name).isSome)=true:=by
   exact Ztc
  obtain⟨m,rfl,hm⟩:=LHeap.scope?_some hob;have dj:=getElem?_lt hm;by_cases aV:s.object<0
  ·rw [Y5 aV] at E;obtain ⟨k, hk⟩ := Option.isSome_iff_exists.1 E;obtain ⟨b, hp, _⟩ := LScope.idx_some hk;by_cases hr : b.ready = false
   .have hw:H.write m name ⟨vk,vn,vs⟩=(H,6):=by simp[LHeap.write,hob,aV,hk,hp,hr]
    rw[hw];exact Zit h m s name k b vk vn vs hm aV hk hp hr
   .have y:b.ready=true:=by simpa using hr
    by_cases F:b.kind=2
    .have hw:H.write m name ⟨vk,vn,vs⟩=(H,1):=by simp[LHeap.write,hob,aV,hk,hp,y,F]
     rw[hw];exact Zfv h m s name k b vk vn vs hm aV hk hp y (by simp[F])
    .by_cases I:b.kind=3
     .have hw:H.write m name ⟨vk,vn,vs⟩=(H,5):=by simp[LHeap.write,hob,aV,hk,hp,y,I]
      rw[hw];exact Zlh h m s name k b vk vn vs hm aV hk hp y (by simp[F]) (by simp[I])
     .have hw:H.write m name ⟨vk,vn,vs⟩=(H.setNames m s (s.names.set k {b with v:=⟨vk,vn,vs⟩}),0):=by simp[LHeap.write,hob,aV,hk,hp,y,F,I]
      rw[hw];exact Zmv h m s name k b vk vn vs hm aV hk hp y (by simp[F]) (by simp[I])
  .rw[Y3 aV]at E;have hw:H.write m name ⟨vk,vn,vs⟩=H.put s.object name ⟨vk,vn,vs⟩ false:=by simp[LHeap.write,hob,aV,E]
   rw[hw];have HC:=lh (Tg u (m:Int) name);rw[hq]at HC;rcases Z4 h.rowS with⟨dI,hz⟩|⟨gs,cs,dI,aG,cO,pB⟩;·omega
   unfold maxLen at cO;refine RZ ?_;intro ap;have HF:=lh ap;have J:=λw1 (hh:HeapAt ρ w1 hb ho L H)=>Zk0 hh s.object name ⟨vk,vn,vs⟩ false O;simp only[LVal.agg]at J;generalize df (H.put s.object name ⟨vk,vn,vs⟩ false).2=er at J ⊢;have pQ:=lh J;clear J;have HH:=lh u;clear h u hob E hm dI ap hq hw O;go_enter Tryz.func122,Tryz.ntmps122
   go_wp2_with fail
   refine SN ?_;intro w1 q0 q1 q2 f0 f1 f2 hs d0 d1 d2 eW HB;go_wp2_with fail
   refine Z8 [0,2,4,6,8,10,12] [7,8] (λW=>vC W (L.sb m) 1 (vI s.object)∧vC W w.heap.size 0 (vI vk)∧vC W w.heap.size 1 (vI vn)∧vC W w.heap.size 2 (.string vs)) ⟨d2,q0,q1,q2⟩ λ_=>?_;refine dW ?_
   iterate 7
    refine dV ?_
   refine Z0 ?_;go_wp2_with fail
   refine(pQ.o w1.drew eW.o.drew).mono ?_;rintro e w2⟨rfl,ρ',U,Y,Z⟩;have HA:=lh Y;have yD:=lh Z;clear Y Z;go_wp2;go_ret;exact⟨rfl,ρ',U,HA.o,(Fr.of_below X HB.o.drew).trans yD.o⟩
 .have p:H.has n name=false:=by simpa using hq
  have hw:H.write n name ⟨vk,vn,vs⟩=(H,7):=by
   unfold LHeap.has at p;unfold LHeap.write;split at p;·rename_i hs;simp[hs]
   .rename_i s hs;simp only[hs];split at p
    .have :s.idx name=none:=by simpa using p
     rename_i aV;rw[Y5 aV,this]
    .rename_i aV;rw[Y3 aV];simp[p]
  rw[hw];have HC:=lh (Tg u n name);rw[p]at HC;have HH:=lh u;clear h u hq p hw O;go_enter Tryz.func122,Tryz.ntmps122
  go_wp2_with fail
  refine HC.o.mono ?_;rintro e w1⟨rfl,hB⟩;have HB:=lh hB;clear hB;go_wp2;go_ret;exact⟨rfl,ρ,L,HH.o.below HB.o,Fr.of_below X (UP HB.o)⟩
end
