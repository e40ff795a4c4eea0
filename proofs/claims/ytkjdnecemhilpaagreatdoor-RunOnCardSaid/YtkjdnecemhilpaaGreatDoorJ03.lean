import Derived.Test.YtkjdnecemhilpaaGreatDoorJ02
import Derived.Deep.RegionHeld3
import Derived.Deep.RegionLaw
set_option maxRecDepth 100000
set_option maxHeartbeats 20000000
set_option linter.all false
namespace Go.Proofs.YtkjdnecemhilpaaGreatDoor
open Go Go.RowKit Tryz
def Zk{w:kV}{b o:Nat}{c:Array Value}{T:TypeId}{mk:Nat×Nat}(v:Value)(h:w.heap[b]?=some (.cells c T mk)) :
 (w.setCell ⟨b,o,none⟩ v).heap[b]?=some (.cells (c.setIfInBounds o v) T mk):=by
 simp[World.setCell,Array.getElem?_modify,h]
def Z4d{w wA w1:kV}{row:Option Nat}{hb off:Nat}{x:Value}(g:Value)(m:kW w wA)(p:wA.grownBy w1 row)(J:hb<w.heap.size)(y:row≠some hb)
 (hc:w.cell? ⟨hb,off,none⟩=some x) :
 (w1.setCell ⟨hb,off,none⟩ g).cell? ⟨hb,off,none⟩=some g/\(∀o,o≠off->(w1.setCell ⟨hb,off,none⟩ g).cell? ⟨hb,o,none⟩=w.cell? ⟨hb,o,none⟩)/\
 (∀o,(w1.setCell ⟨hb,off,none⟩ g).frozen? ⟨hb,o,none⟩=w.frozen? ⟨hb,o,none⟩)/\
 (∀b,b<w.heap.size->b≠hb->some b≠row->(w1.setCell ⟨hb,off,none⟩ g).heap[b]?=w.heap[b]?)/\
 (∀b,b≠hb->(w1.setCell ⟨hb,off,none⟩ g).heap[b]?=w1.heap[b]?)/\
 (∀b,b<wA.heap.size->b≠hb->some b≠row->(w1.setCell ⟨hb,off,none⟩ g).heap[b]?=wA.heap[b]?)/\
 w.heap.size<=(w1.setCell ⟨hb,off,none⟩ g).heap.size/\(w1.setCell ⟨hb,off,none⟩ g).os=w.os/\(w1.setCell ⟨hb,off,none⟩ g).tape=w.tape/\(w1.setCell ⟨hb,off,none⟩ g).output=w.output:=by
 have U:hb<wA.heap.size:=Y7 J m.size;have O:w1.heap[hb]?=w.heap[hb]?:=(p.block hb U (λe=>y e.symm)).trans (m.block hb J);have c1:∀o,w1.cell? ⟨hb,o,none⟩=w.cell? ⟨hb,o,none⟩:=λo=>Yb O;have X:∀o,w1.frozen? ⟨hb,o,none⟩=w.frozen? ⟨hb,o,none⟩:=λo=>Yn O;have hs:∀b,b≠hb->(w1.setCell ⟨hb,off,none⟩ g).heap[b]?=w1.heap[b]?:=λb y=>Y8 _ _ _ _ y
 refine⟨World.cell?_setCell_same _ _ _ ((c1 off).trans hc),λo ho=>?_,λo=>?_,λb u F I=>?_,hs,λb u F I=>?_,?_,p.os.trans m.os,p.tape.trans m.tape,p.output.trans m.output⟩;·rw[Yr _ _ _ _ (by intro e;cases e;exact ho rfl)];exact c1 o
 .rw[World.frozen?_setCell];exact X o
 .exact(hs b F).trans ((p.block b (Y7 u m.size) I).trans (m.block b u))
 .exact(hs b F).trans (p.block b u I)
 .exact Y4 m.size (Y4 p.size QJ)
section
variable {ρ:Nat->Option Role}{w w':kV}{hb ho:Nat}{L:HL}{H:LHeap}
def YC{α:Type}{f:α->List Value}{m:Nat}(hf:∀a,(f a).length=m)(l:List α):(l.flatMap f).length=l.length*m:=by
 induction l with
 |nil=>simp
 |cons a l g=>rw[List.flatMap_cons,Yi,g,hf,List.length_cons,Nat.succ_mul,Nat.add_comm]
def HeapAt.setNames(h:HeapAt ρ w hb ho L H){i:Nat}{s:LScope}(hi:H.scopes[i]?=some s){nv':Value}{names':List LBind}
 (ac:w'.heap[L.sb i]?=some (.cells #[vI s.outer,vI s.object,nv'] 141 (0,0)))
 (af:w'.ownsRow 0 185 6 nv' names'.length (names'.flatMap LBind.cells))
 (ba:w.heap.size<=w'.heap.size)
 (p:∀b,b<w.heap.size->b≠L.sb i->some b≠(L.nv i).ownBlock->w'.heap[b]?=w.heap[b]?)
 (u:∀g,nv'.ownBlock=some g->(L.nv i).ownBlock=some g\/w.heap.size<=g)
 (y:w'.os=w.os)(F:w'.tape=w.tape)(I:w'.output=w.output) :
 ∃ρ' J,HeapAt ρ' w' hb ho J {H with scopes:=H.scopes.set i {s with names:=names'}}/\Fr ρ ρ' hb ho w w':=by
 have ff:=getElem?_lt hi;let ρ':Nat->Option Role:=λb=>if nv'.ownBlock=some b then some (.nam i)else ρ b
 have far:∀b r,ρ b=some r->r≠.scp i->r≠.nam i->w'.heap[b]?=w.heap[b]?:=λb r hr O U=>
  p b (h.live b Rr) (by rintro rfl;rw[h.rsb i ff]at hr;exact O (Yc hr).symm)
   (by intro e;rw[h.rnv i b ff e.symm]at hr;exact U (Yc hr).symm)
 have role:∀b r,ρ b=some r->r≠.nam i->ρ' b=some r:=λb r hr n=>by
  have:nv'.ownBlock≠some b:=λe=>by
   rcases u b e with e|e;·rw[h.rnv i b ff e]at hr;exact n (Yc hr).symm
   .have:=h.live b Rr;omega
  simp only[ρ',if_neg this];exact hr
 have m:w'.heap[hb]?=w.heap[hb]?:=far hb .hp h.rhp Qm Qm;refine⟨ρ',{L with nv:=λj=>if j=i then nv' else L.nv j},?_,?_⟩
 .refine{cellO:=?_,cellS:=?_,frO:=?_,frS:=?_,rowO:=?_,rowS:=?_,obj:=?_,scp:=?_,rhp:=?_,rvo:=?_,rvs:=?_,rob:=?_,rpv:=?_,rsb:=?_,rnv:=?_,live:=?_};·exact(Yb m).trans h.cellO
  .exact(Yb m).trans h.cellS
  .exact(Yn m).trans h.frO
  .exact(Yn m).trans h.frS
  .exact Zsr
  .simp only[List.length_set];exact Zso
  .exact Zzx
  .intro j t hj;by_cases cK:j=i;·exact Zys
   .simp only[if_neg cK];rw[List.getElem?_set_ne Qe]at hj;have iI:=getElem?_lt hj;exact⟨by rw[far _ _ (h.rsb j iI) Qi Qm];exact(h.scp j t hj).1,Z3 (h.scp j t hj).2 λg hg=>far g _ (h.rnv j g iI hg) Qm Qi⟩
  .exact role _ _ h.rhp Qm
  .exact Zt9
  .exact Zsz
  .exact λj hj=>role _ _ (h.rob j hj) Qm
  .exact λj g hj hg=>role _ _ (h.rpv j g hj hg) Qm
  .intro j hj;simp only[List.length_set]at hj;exact role _ _ (h.rsb j hj) Qm
  .intro j g hj hg;simp only[List.length_set]at hj;by_cases cK:j=i
   .subst cK;simp only[if_true]at hg;simp[ρ',hg]
   .simp only[if_neg cK]at hg;exact role _ _ (h.rnv j g hj hg) Qi
  .exact Zyi
 .refine⟨y,F,I,ba,λk hk hr=>?_,λk hk hr=>?_,λ_ _ _=>Yb m,λ_=>Yn m⟩;·exact p k hk (by rintro rfl;simp[h.rsb i ff]at hr) (by intro e;simp[h.rnv i k ff e.symm]at hr)
  .have:nv'.ownBlock≠some k:=λe=>by
    rcases u k e with e|e;·simp[h.rnv i k ff e]at hr
    .omega
   simp only[ρ',if_neg this];exact hr
def HeapAt.setProps(h:HeapAt ρ w hb ho L H){i:Nat}{s:LObj}(hi:H.objects[i]?=some s){nv':Value}{props':List LProp}
 (ac:w'.heap[L.ob i]?=some (.cells #[nv',vI s.code] 129 (0,0)))
 (af:w'.ownsRow 0 134 5 nv' props'.length (props'.flatMap LProp.cells))
 (ba:w.heap.size<=w'.heap.size)
 (p:∀b,b<w.heap.size->b≠L.ob i->some b≠(L.pv i).ownBlock->w'.heap[b]?=w.heap[b]?)
 (u:∀g,nv'.ownBlock=some g->(L.pv i).ownBlock=some g\/w.heap.size<=g)
 (y:w'.os=w.os)(F:w'.tape=w.tape)(I:w'.output=w.output) :
 ∃ρ' J,HeapAt ρ' w' hb ho J {H with objects:=H.objects.set i {s with props:=props'}}/\Fr ρ ρ' hb ho w w':=by
 have ff:=getElem?_lt hi;let ρ':Nat->Option Role:=λb=>if nv'.ownBlock=some b then some (.prp i)else ρ b
 have far:∀b r,ρ b=some r->r≠.obj i->r≠.prp i->w'.heap[b]?=w.heap[b]?:=λb r hr O U=>
  p b (h.live b Rr) (by rintro rfl;rw[h.rob i ff]at hr;exact O (Yc hr).symm)
   (by intro e;rw[h.rpv i b ff e.symm]at hr;exact U (Yc hr).symm)
 have role:∀b r,ρ b=some r->r≠.prp i->ρ' b=some r:=λb r hr n=>by
  have:nv'.ownBlock≠some b:=λe=>by
   rcases u b e with e|e;·rw[h.rpv i b ff e]at hr;exact n (Yc hr).symm
   .have:=h.live b Rr;omega
  simp only[ρ',if_neg this];exact hr
 have m:w'.heap[hb]?=w.heap[hb]?:=far hb .hp h.rhp Qm Qm;refine⟨ρ',{L with pv:=λj=>if j=i then nv' else L.pv j},?_,?_⟩
 .refine{cellO:=?_,cellS:=?_,frO:=?_,frS:=?_,rowO:=?_,rowS:=?_,obj:=?_,scp:=?_,rhp:=?_,rvo:=?_,rvs:=?_,rob:=?_,rpv:=?_,rsb:=?_,rnv:=?_,live:=?_};·exact(Yb m).trans h.cellO
  .exact(Yb m).trans h.cellS
  .exact(Yn m).trans h.frO
  .exact(Yn m).trans h.frS
  .simp only[List.length_set];exact Zsr
  .exact Zso
  .intro j t hj;by_cases cK:j=i;·exact Zys
   .simp only[if_neg cK];rw[List.getElem?_set_ne Qe]at hj;have iI:=getElem?_lt hj;exact⟨by rw[far _ _ (h.rob j iI) Qi Qm];exact(h.obj j t hj).1,Z3 (h.obj j t hj).2 λg hg=>far g _ (h.rpv j g iI hg) Qm Qi⟩
  .exact Zy6
  .exact role _ _ h.rhp Qm
  .exact Zt9
  .exact Zsz
  .intro j hj;simp only[List.length_set]at hj;exact role _ _ (h.rob j hj) Qm
  .intro j g hj hg;simp only[List.length_set]at hj;by_cases cK:j=i
   .subst cK;simp only[if_true]at hg;simp[ρ',hg]
   .simp only[if_neg cK]at hg;exact role _ _ (h.rpv j g hj hg) Qi
  .exact λj hj=>role _ _ (h.rsb j hj) Qm
  .exact λj g hj hg=>role _ _ (h.rnv j g hj hg) Qm
  .exact Zyi
 .refine⟨y,F,I,ba,λk hk hr=>?_,λk hk hr=>?_,λ_ _ _=>Yb m,λ_=>Yn m⟩;·exact p k hk (by rintro rfl;simp[h.rob i ff]at hr) (by intro e;simp[h.rpv i k ff e.symm]at hr)
  .have:nv'.ownBlock≠some k:=λe=>by
    rcases u k e with e|e;·simp[h.rpv i k ff e]at hr
    .omega
   simp only[ρ',if_neg this];exact hr
def Zn6(f:Nat->Nat)(n nb:Nat):zy (λj=>if j=n then nb else f j) (n+1)=zy f n++[vP nb]:=by
 unfold zy;rw[List.range_succ,Yl];congr 1
 .refine List.map_congr_left λj g=>?_;have:=List.mem_range.1 g;simp only[if_neg (show j≠n by omega)]
 .simp
def HeapAt.addScope(h:HeapAt ρ w hb ho L H){nb:Nat}{m:Value}{outer object:Int}
 (O:w'.cell? ⟨hb,ho+1,none⟩=some m)(ac:w'.heap[nb]?=some (.cells #[vI outer,vI object,.slice none 0 0] 141 (0,0)))
 (af:w'.ownsRow 0 136 1 m (H.scopes.length+1) (zy L.sb H.scopes.length++[vP nb]))
 (dl:w.heap.size<=nb)(ba:w.heap.size<=w'.heap.size)
 (F:∀b,b<w.heap.size->b≠hb->some b≠L.vs.ownBlock->w'.heap[b]?=w.heap[b]?)
 (I:∀o,o≠ho+1->w'.cell? ⟨hb,o,none⟩=w.cell? ⟨hb,o,none⟩)(p:∀o,w'.frozen? ⟨hb,o,none⟩=w.frozen? ⟨hb,o,none⟩)
 (J:∀g,m.ownBlock=some g->L.vs.ownBlock=some g\/w.heap.size<=g)(U:m.ownBlock≠some nb)
 (u:w'.os=w.os)(y:w'.tape=w.tape)(X:w'.output=w.output) :
 ∃ρ' Y,HeapAt ρ' w' hb ho Y {H with scopes:=H.scopes++[⟨outer,object,[]⟩]}/\Fr ρ ρ' hb ho w w':=by
 let n:=H.scopes.length
 let ρ':Nat->Option Role:=λb=>if b=nb then some (.scp n)else if m.ownBlock=some b then some .scps else ρ b
 have far:∀b r,ρ b=some r->r≠.hp->r≠.scps->w'.heap[b]?=w.heap[b]?:=λb r hr n1 Z=>
  F b (h.live b Rr) Rm
   (by intro e;rw[h.rvs b e.symm]at hr;exact Z (Yc hr).symm)
 have role:∀b r,ρ b=some r->r≠.scps->ρ' b=some r:=λb r hr hn=>by
  have aA:=h.live b Rr;have u:b≠nb:=Qe
  have y:m.ownBlock≠some b:=λe=>by
   rcases J b e with e|e;·rw[h.rvs b e]at hr;exact hn (Yc hr).symm
   .omega
  simp only[ρ',if_neg u,if_neg y];exact hr
 refine⟨ρ',{L with vs:=m,sb:=λj=>if j=n then nb else L.sb j,nv:=λj=>if j=n then .slice none 0 0 else L.nv j},?_,?_⟩
 .refine{cellO:=?_,cellS:=?_,frO:=?_,frS:=?_,rowO:=?_,rowS:=?_,obj:=?_,scp:=?_,rhp:=?_,rvo:=?_,rvs:=?_,rob:=?_,rpv:=?_,rsb:=?_,rnv:=?_,live:=?_};·exact(I ho Qe).trans h.cellO
  .exact O
  .exact(p ho).trans h.frO
  .exact(p _).trans h.frS
  .exact Zsr
  .exact Zwb
  .exact Zzx
  .intro j t hj;by_cases cK:j=n;·exact AbH
   .simp only[if_neg cK];have iI:j<H.scopes.length:=by
     exact Zy5
    rw[List.getElem?_append_left iI]at hj;exact⟨by rw[far _ _ (h.rsb j iI) Qm Qm];exact(h.scp j t hj).1,Z3 (h.scp j t hj).2 λg hg=>far g _ (h.rnv j g iI hg) Qm Qm⟩
  .exact role _ _ h.rhp Qm
  .exact Zt9
  .intro g hg;have :g≠nb:=by rintro rfl;exact U hg
   simp[ρ',this,show m.ownBlock=some g from hg]
  .exact λj hj=>role _ _ (h.rob j hj) Qm
  .exact λj g hj hg=>role _ _ (h.rpv j g hj hg) Qm
  .intro j hj;by_cases cK:j=n;·subst cK;simp[ρ']
   .simp only[if_neg cK];simp only[zL,zM,zN]at hj;exact role _ _ (h.rsb j Rl) Qm
  .intro j g hj hg;by_cases cK:j=n;·subst cK;simp[Value.ownBlock]at hg
   .simp only[if_neg cK]at hg;simp only[zL,zM,zN]at hj;exact role _ _ (h.rnv j g Rl hg) Qm
  .intro b du;by_cases e1:b=nb;·subst e1;exact(Y1.1 ac).1
   .by_cases e:m.ownBlock=some b;·exact(af.lt b e).2
    .exact Xm
 .refine⟨u,y,X,ba,λk hk hr=>?_,λk hk hr=>?_,λo _ mN=>I o mN,p⟩;·exact F k hk (by rintro rfl;simp[h.rhp]at hr) (by intro e;simp[h.rvs k e.symm]at hr)
  .have h4:k≠nb:=by omega
   have:m.ownBlock≠some k:=λe=>by
    rcases J k e with e|e;·simp[h.rvs k e]at hr
    .omega
   simp only[ρ',if_neg this,if_neg h4];exact hr
def HeapAt.addObject(h:HeapAt ρ w hb ho L H){nb:Nat}{m:Value}{code:Int}
 (O:w'.cell? ⟨hb,ho,none⟩=some m)(ac:w'.heap[nb]?=some (.cells #[.slice none 0 0,vI code] 129 (0,0)))
 (af:w'.ownsRow 0 126 1 m (H.objects.length+1) (zy L.ob H.objects.length++[vP nb]))
 (dl:w.heap.size<=nb)(ba:w.heap.size<=w'.heap.size)
 (F:∀b,b<w.heap.size->b≠hb->some b≠L.vo.ownBlock->w'.heap[b]?=w.heap[b]?)
 (I:∀o,o≠ho->w'.cell? ⟨hb,o,none⟩=w.cell? ⟨hb,o,none⟩)(p:∀o,w'.frozen? ⟨hb,o,none⟩=w.frozen? ⟨hb,o,none⟩)
 (J:∀g,m.ownBlock=some g->L.vo.ownBlock=some g\/w.heap.size<=g)(U:m.ownBlock≠some nb)
 (u:w'.os=w.os)(y:w'.tape=w.tape)(X:w'.output=w.output) :
 ∃ρ' Y,HeapAt ρ' w' hb ho Y {H with objects:=H.objects++[⟨[],code⟩]}/\Fr ρ ρ' hb ho w w':=by
 let n:=H.objects.length
 let ρ':Nat->Option Role:=λb=>if b=nb then some (.obj n)else if m.ownBlock=some b then some .objs else ρ b
 have far:∀b r,ρ b=some r->r≠.hp->r≠.objs->w'.heap[b]?=w.heap[b]?:=λb r hr n1 Z=>
  F b (h.live b Rr) Rm
   (by intro e;rw[h.rvo b e.symm]at hr;exact Z (Yc hr).symm)
 have role:∀b r,ρ b=some r->r≠.objs->ρ' b=some r:=λb r hr hn=>by
  have aA:=h.live b Rr;have u:b≠nb:=Qe
  have y:m.ownBlock≠some b:=λe=>by
   rcases J b e with e|e;·rw[h.rvo b e]at hr;exact hn (Yc hr).symm
   .omega
  simp only[ρ',if_neg u,if_neg y];exact hr
 refine⟨ρ',{L with vo:=m,ob:=λj=>if j=n then nb else L.ob j,pv:=λj=>if j=n then .slice none 0 0 else L.pv j},?_,?_⟩
 .refine{cellO:=?_,cellS:=?_,frO:=?_,frS:=?_,rowO:=?_,rowS:=?_,obj:=?_,scp:=?_,rhp:=?_,rvo:=?_,rvs:=?_,rob:=?_,rpv:=?_,rsb:=?_,rnv:=?_,live:=?_};·exact O
  .exact(I (ho+1) Qe).trans h.cellS
  .exact(p ho).trans h.frO
  .exact(p _).trans h.frS
  .exact Zwb
  .exact Zso
  .intro j t hj;by_cases cK:j=n;·exact AbH
   .simp only[if_neg cK];have iI:j<H.objects.length:=by
     exact Zy5
    rw[List.getElem?_append_left iI]at hj;exact⟨by rw[far _ _ (h.rob j iI) Qm Qm];exact(h.obj j t hj).1,Z3 (h.obj j t hj).2 λg hg=>far g _ (h.rpv j g iI hg) Qm Qm⟩
  .exact Zy6
  .exact role _ _ h.rhp Qm
  .intro g hg;have :g≠nb:=by rintro rfl;exact U hg
   simp[ρ',this,show m.ownBlock=some g from hg]
  .exact Zsz
  .intro j hj;by_cases cK:j=n;·subst cK;simp[ρ']
   .simp only[if_neg cK];simp only[zL,zM,zN]at hj;exact role _ _ (h.rob j Rl) Qm
  .intro j g hj hg;by_cases cK:j=n;·subst cK;simp[Value.ownBlock]at hg
   .simp only[if_neg cK]at hg;simp only[zL,zM,zN]at hj;exact role _ _ (h.rpv j g Rl hg) Qm
  .exact λj hj=>role _ _ (h.rsb j hj) Qm
  .exact λj g hj hg=>role _ _ (h.rnv j g hj hg) Qm
  .intro b du;by_cases e1:b=nb;·subst e1;exact(Y1.1 ac).1
   .by_cases e:m.ownBlock=some b;·exact(af.lt b e).2
    .exact Xm
 .refine⟨u,y,X,ba,λk hk hr=>?_,λk hk hr=>?_,λo mN _=>I o mN,p⟩;·exact F k hk (by rintro rfl;simp[h.rhp]at hr) (by intro e;simp[h.rvo k e.symm]at hr)
  .have h4:k≠nb:=by omega
   have:m.ownBlock≠some k:=λe=>by
    rcases J k e with e|e;·simp[h.rvo k e]at hr
    .omega
   simp only[ρ',if_neg this,if_neg h4];exact hr
end
theorem YA:(Tryz.prog.info? 136).map (λi=>(i.zero,i.size,i.bytes))=some (some (.pointer none),1,8):=by kernel_rfl
theorem ZM:(Tryz.prog.info? 126).map (λi=>(i.zero,i.size,i.bytes))=some (some (.pointer none),1,8):=by kernel_rfl
theorem Mo:(Tryz.prog.info? 185).map (λi=>(i.zero,i.size,i.bytes))=some (some (.agg #[.string ⟨#[]⟩,vI 0,vI 0,.string ⟨#[]⟩,vI 0,.bool false]),6,64):=by kernel_rfl
def Zw7(w:kV)(o:Obj)(x:Value)(t:TypeId):∀j u,[x][j]?=some u->((w.alloc o).alloc (.cells #[x] t)).cell? ((⟨w.heap.size+1,0,none⟩:Addr).add j)=some u:=by
 have:=cell_one_new (w.alloc o) x t;rwa[show(w.alloc o).heap.size=w.heap.size+1 by simp]at this
section
variable {ρ:Nat->Option Role}{w:kV}{hb ho:Nat}{L:HL}{H:LHeap}
def Zds(h:HeapAt ρ w hb ho L H)(outer object:Int)(hn:H.scopes.length<1099511627776) :
 kC 52 #[.pointer (some ⟨hb,ho,none⟩),vI outer,vI object] w λe w'=>e=.returned (vI H.scopes.length)/\
  ∃ρ' L',HeapAt ρ' w' hb ho L' {H with scopes:=H.scopes++[⟨outer,object,[]⟩]}/\Fr ρ ρ' hb ho w w':=by
 obtain⟨i0,hi,aC,bj,bJ⟩:=info_parts YA;have iG:=h.cellS;have sg:=h.frS;have cA:=h.hbLt;have o:=h.rowS;have y:∀g,L.vs.ownBlock=some g->g<w.heap.size:=λg m=>(o.lt g m).2;have F:∀g,L.vs.ownBlock=some g->g≠hb:=λg m e=>by have:=h.rvs g m;rw[e,h.rhp]at this;cases this
 obtain⟨vs,p⟩:=zX L.vs
 obtain⟨sb,aM⟩:=zX (zy L.sb H.scopes.length)
 obtain⟨n,I⟩:=zX H.scopes.length
 rw[<-p,<-aM]at o;rw[<-p]at iG y F;rw[<-I]at hn o ⊢;obtain⟨HH,HV,HS,HN,HO,HL,HR⟩:=kF h p aM I o y F;clear h p aM I o y F;have O:∀U X (w1:kV),((w.alloc U).alloc X).grownBy w1 vs.ownBlock->w1.cell? ⟨hb,ho+1,none⟩=some vs/\w1.frozen? ⟨hb,ho+1,none⟩=false:=λU X w1 m=>
  ⟨(m.cell_far ⟨hb, ho + 1, none⟩ Qi (fun e => HR.o hb e.symm rfl)).trans ((Zb Qi).trans ((Zb cA).trans iG)),
   (m.frozen_far ⟨hb,ho+1,none⟩ Qi (λe=>HR.o hb e.symm rfl)).trans ((TT Qi).trans ((TT cA).trans sg))⟩
 have HA:=lh O;clear O;go_enter func52,ntmps52
 go_wp2_with (at_builtin;go_must (refine wpList_append_lies _ rfl (.tmp 11) (.tmp 16) 65 rfl 0 136 i0 (.pointer none) 1 8 underlying65 hi aC bj bJ rfl Qg vs n sb rfl ((HO.o.alloc _).alloc _) ⟨w.heap.size+1,0,none⟩ 1 1 [vP w.heap.size] rfl rfl (Zw7 _ _ _ _) Qp Qe Qj Qe Qe (w.heap.size+2) Qm ?_);intro g cap w1 Y J Z cX;obtain⟨jE,tI⟩:=HA.o _ _ _ J;have HG:=lh J;have HW:=lh Y;have HT:=lh Z;have uQ:=lh cX;clear J Y Z cX)
 go_ret;refine⟨Z9m Qe,?_⟩;have hA:kW w ((w.alloc (.cells #[vI outer,vI object,.slice none 0 0] 141)).alloc (.cells #[vP w.heap.size] 136)):=((Y2 _ _).alloc (Y0 _) _).alloc Qm _;refine Zvv ?_;intro aH k1 k2 k3 k4 k5 k6 k7 k8 k9 jF hv yD gJ h;refine h.addScope (nb:=w.heap.size) k1 ?_ ?_ (Y0 _) k7 ?_ k2 k3 ?_ ?_ k8 k9 jF;·exact WX
 .exact Zw4
 .intro b ai aw bo;rw[<-hv]at bo;exact k4 b ai aw bo
 .exact Xg
 .exact Zz2
end
section
variable {P:Program}{ah:Array Oper}{md:Region.Mode}
def Ends(K:Act->kV->Prop)(Q:Exit->Act->kV->Prop):Exit->Act->kV->Prop
 | .normal,a,w=>K a w
 |e,a,w=>Q e a w
def Ztg{Q g:Exit->Act->kV->Prop}{o:Oper}{a:Act}{w:kV}{K:Act->kV->Prop}
 (hp:∀c a w,g (.panic c) a w->Q (.panic c) a w)(ho:LetsOut g->LetsOut Q)(h:o.wp P a w K g):o.wp P a w K Q:=by
 unfold Oper.wp at *;generalize(execOp a.eval o).run P w=r at *;cases r with
 |ok n w'=>
   cases n<;>simp only[Oper.upon]at h ⊢<;>
    first
     |exact h
     |exact Calls.mono h (λe dN he=>by cases e<;>first|exact he|exact hp _ _ _ he|exact ho he)
 |halt x w'=>cases x<;>simp only[Oper.upon]at h ⊢<;>exact hp _ _ _ h
def Zns{Q:Exit->Act->kV->Prop}{R:Act->kV->Prop}{i:Nat}{a:Act}{w:kV}{K:Act->kV->Prop}
 (h:wpOp P ah (Ends R Q) i K a w):wpOp P ah Q i K a w:=by
 unfold wpOp at *;split;·rename_i ho;simp only[ho]at h;exact h
 .rename_i o ho;simp only[ho]at h;split
  .rename_i hw;simp only[hw,if_true]at h;rcases h with h|⟨g,m⟩;·exact .inl (Ztg (λ_ _ _ h=>h) (λh=>h) h)
   .exact .inr ⟨g,m⟩
  .rename_i hw;simp only[hw]at h;exact h
theorem Zbx{Q:Exit->Act->kV->Prop}:∀(f:Nat) (g:Array Bool) (a:Act) (w:kV),wpAny P md ah Q f g a w->wpAny P md ah Q (f+1) g a w
 |0,g,a,w,h=>⟨λ_=>h.2,by rw[h.1];simp⟩
 |f+1,g,a,w,h=>⟨h.1,λi hi=>wpOp_mono (λa' w' m=>Zbx f _ a' w' m) (h.2 i hi)⟩
def Zge{Q:Exit->Act->kV->Prop}{f g:Nat}(o:f<=g){m:Array Bool}{a:Act}{w:kV}(h:wpAny P md ah Q f m a w):wpAny P md ah Q g m a w:=by
 obtain⟨d,rfl⟩:=Nat.exists_eq_add_of_le o;induction d with
 |zero=>exact h
 |succ d p=>exact Zbx _ _ _ _ (p Qe)
def Z6f(m j:Nat):(Array.replicate m false).getD j false=false:=by
 rcases Nat.lt_or_ge j m with h|h<;>simp[h]
def uJ(l:List Nat)(m:Array Bool):Array Bool:=l.foldl (λm i=>m.setIfInBounds i true) m
def Z3s(l:List Nat)(m:Array Bool):(uJ l m).size=m.size:=by
 unfold uJ;induction l generalizing m with
 |nil=>rfl
 |cons i l g=>simp only[List.foldl_cons];rw[g];simp
def Z3z{l:List Nat}{m:Array Bool}{j:Nat}(d:Bool)(h:j∉l):(uJ l m).getD j d=m.getD j d:=by
 unfold uJ;induction l generalizing m with
 |nil=>rfl
 |cons i l g=>
   simp only[List.mem_cons,not_or]at h;simp only[List.foldl_cons];rw[g h.2,getD_set_ne d (Ne.symm h.1)]
def Z3g{l:List Nat}{m:Array Bool}{j:Nat}(h:m.getD j false=true):(uJ l m).getD j false=true:=by
 unfold uJ;induction l generalizing m with
 |nil=>exact h
 |cons i l g=>simp only[List.foldl_cons];exact g (getD_set_true h)
def Z4k{l:List Nat}{m:Array Bool}{j:Nat}(h:j∈l)(g:j<m.size):(uJ l m).getD j false=true:=by
 unfold uJ;induction l generalizing m with
 |nil=>cases h
 |cons i l o=>
   simp only[List.foldl_cons];rcases List.mem_cons.1 h with rfl|h;·exact Z3g (l:=l) (by simp[g])
   .exact o h (by simpa using g)
def Z7x(m:Array Bool)(i j:Nat):(m.setIfInBounds i true).setIfInBounds j true=(m.setIfInBounds j true).setIfInBounds i true:=by
 by_cases h:i=j;·subst h;rfl
 .exact Array.setIfInBounds_comm _ _ h
def Zhb(l:List Nat)(m:Array Bool)(i:Nat):uJ l (m.setIfInBounds i true)=(uJ l m).setIfInBounds i true:=by
 unfold uJ;induction l generalizing m with
 |nil=>rfl
 |cons j l g=>simp only[List.foldl_cons];rw[Z7x,g]
def Closed(md:Region.Mode)(ah:Array Oper)(m:Array Bool):Prop:=
 ∀j o,ah[j]?=some o->m.getD j false=true->∀e∈o.after,Region.binds md e=true->m.getD e.on false=true
def Closed.set{m:Array Bool}(h:Closed md ah m){i:Nat}(hi:i∈Region.ready md ah m):Closed md ah (m.setIfInBounds i true):=by
 obtain⟨_,u,y,F⟩:=mem_ready.1 hi;intro j o g hl e he hb;by_cases p:i=j
 .subst p;have:o=u:=Yc (g.symm.trans y);subst this;exact getD_set_true (F e he hb)
 .rw[getD_set_ne false p]at hl;exact getD_set_true (h j o g hl e he hb)
def Z5g(md:Region.Mode)(ah:Array Oper)(m:Array Bool)(j:Nat):Array Bool:=
 match ah[j]? with
 |some o=>o.after.toList.foldl (λm e=>if Region.binds md e then m.setIfInBounds e.on true else m) m
 |none=>m
def Zs8(md:Region.Mode)(ah:Array Oper)(t:Nat):Array Bool:=
 (List.range t).reverse.foldl (λm j=>if m.getD j false then Z5g md ah m j else m) (Z5g md ah (Array.replicate ah.size false) t)
def Z7w{m p:Array Bool}(g:∀k,m.getD k false=true->p.getD k false=true){j:Nat}
 (y:∀o,ah[j]?=some o->∀e∈o.after,Region.binds md e=true->p.getD e.on false=true):∀k,(Z5g md ah m j).getD k false=true->p.getD k false=true:=by
 unfold Z5g;cases ho:ah[j]? with
 |none=>exact g
 |some o=>
   simp only;have F:=y o ho
   have:∀(l:List Edge),(∀e∈l,Region.binds md e=true->p.getD e.on false=true)->∀m:Array Bool,(∀k,m.getD k false=true->p.getD k false=true)->
    ∀k,(l.foldl (λm e=>if Region.binds md e then m.setIfInBounds e.on true else m) m).getD k false=true->p.getD k false=true:=by
    intro l;induction l with
    |nil=>intro _ m g;exact g
    |cons e l G=>
      intro he m g;simp only[List.foldl_cons];refine G (λI J=>he I (List.mem_cons_of_mem _ J)) _ λk hk=>?_;by_cases hb:Region.binds md e=true
      .rw[Y5 hb]at hk;by_cases u:e.on=k;·subst u;exact he e (Yw ..) hb
       .rw[getD_set_ne false u]at hk;exact g k hk
      .rw[Y3 hb]at hk;exact g k hk
   exact this o.after.toList (λe he=>F e (Array.mem_toList_iff.1 he)) m g
def Zkv{g:Array Bool}(hc:Closed md ah g){t:Nat}(ht:∀o,ah[t]?=some o->∀e∈o.after,Region.binds md e=true->g.getD e.on false=true) :
 ∀k,(Zs8 md ah t).getD k false=true->g.getD k false=true:=by
 unfold Zs8;have y:∀k,(Z5g md ah (Array.replicate ah.size false) t).getD k false=true->g.getD k false=true:=
  Z7w (λk hk=>by
   rcases Nat.lt_or_ge k ah.size with h|h;·simp[h]at hk
   .simp[h]at hk) ht
 have:∀(l:List Nat) (m:Array Bool),(∀k,m.getD k false=true->g.getD k false=true)->
  ∀k,(l.foldl (λm j=>if m.getD j false then Z5g md ah m j else m) m).getD k false=true->g.getD k false=true:=by
  intro l;induction l with
  |nil=>intro m p;exact p
  |cons j l F=>
    intro m p;simp only[List.foldl_cons];refine F _ ?_;by_cases u:m.getD j false=true
    .rw[Y5 u];exact Z7w p (λo ho e he hb=>hc j o ho (p j u) e he hb)
    .rw[Y3 u];exact p
 exact this _ _ y
def waits(md:Region.Mode)(ah:Array Oper)(j i:Nat):Bool:=
 match ah[j]? with
 |some o=>o.after.any λe=>Region.binds md e&&e.on==i
 |none=>false
def Zna(md:Region.Mode)(ah:Array Oper):Bool:=
 (List.range ah.size).all λj=>match ah[j]? with|some o=>o.after.all λe=>!Region.binds md e||decide (e.on<j)|none=>true
def Zdd(md:Region.Mode)(ah:Array Oper):Nat->List Nat->Bool
 |_,[]=>true
 |t,u::r=>waits md ah u t&&Zdd md ah u r
def Tl(md:Region.Mode)(ah:Array Oper):List Nat->Bool
 | []=>false
 |t::r=>Zna md ah&&((t::r).all λj=>decide (j<ah.size))&&((List.range ah.size).all λj=>(t::r).contains j||(Zs8 md ah t).getD j false)&&Zdd md ah t r
def X6(md:Region.Mode)(ah:Array Oper):List Nat->Array Bool->Bool
 | [],g=>(Region.ready md ah g).isEmpty
 |t::r,g=>decide (Region.ready md ah g=[t])&&X6 md ah r (g.setIfInBounds t true)
def Zen{t:Nat}:∀{r:List Nat},Zdd md ah t r=true->∀u∈r,∃s∈t::r,waits md ah u s=true:=by
 intro r;induction r generalizing t with
 |nil=>intro _ u g;cases g
 |cons v r m=>
   intro h u g;simp only[Zdd,Bool.and_eq_true]at h;rcases List.mem_cons.1 g with rfl|g;·exact⟨t,Yw ..,h.1⟩
   .obtain⟨s,hs,hw⟩:=m h.2 u g;exact⟨s,List.mem_cons_of_mem _ hs,hw⟩
def Z8s{j i:Nat}(h:waits md ah j i=true){m:Array Bool}(g:j∈Region.ready md ah m):m.getD i false=true:=by
 obtain⟨_,o,ho,p⟩:=mem_ready.1 g;unfold waits at h;rw[ho]at h;obtain⟨e,he,hb⟩:=Array.any_eq_true'.1 h;simp only[Bool.and_eq_true,beq_iff_eq]at hb;rw[<-hb.2];exact p e he hb.1
def Znn{g:List Nat}(p:Tl md ah g=true){m:Array Bool}(hc:Closed md ah m)(G:∀t∈g,m.getD t false=false)
 {j:Nat}(I:j<ah.size)(J:j∉g)(O:m.getD j false=false):∀t∈g,t∉Region.ready md ah m:=by
 cases g with
 |nil=>simp[Tl]at p
 |cons t r=>
   simp only[Tl,Bool.and_eq_true]at p;obtain⟨⟨⟨_,_⟩,hd⟩,U⟩:=p;intro u X hr;rcases List.mem_cons.1 X with rfl|Y
   .obtain⟨_,o,ho,Z⟩:=mem_ready.1 hr;have y:=List.all_eq_true.1 hd j (List.mem_range.2 I);simp only[Bool.or_eq_true,List.contains_eq_mem,decide_eq_true_eq]at y;have h2:=y.resolve_left J;have:=Zkv hc (t:=u) (λo' DW e he hb=>by
     have:o'=o:=Yc (DW.symm.trans ho);subst this;exact Z e he hb) j h2
    rw[O]at this;cases this
   .obtain⟨s,hs,hw⟩:=Zen U u Y;have F:=Z8s hw hr;rw[G s hs]at F;cases F
theorem Zd1{m:Array Bool}{j:Nat}(h:j<m.size):m.getD j true=m.getD j false:=by simp[h]
def Z8t(u:Zna md ah=true){m:Array Bool}(hs:m.size=ah.size):∀j,j<ah.size->m.getD j false=false->Region.ready md ah m≠[]:=by
 intro j;induction j using Nat.strongRecOn with
 |_ j y=>
   intro p F;have ho:ah[j]?=some ah[j]:=Array.getElem?_eq_getElem p;have g:=List.all_eq_true.1 u j (List.mem_range.2 p);rw[ho]at g;simp only[Array.all_eq_true_iff_forall_mem,Bool.or_eq_true,Bool.not_eq_true',decide_eq_true_eq]at g;by_cases o:∀e∈ah[j].after,Region.binds md e=true->m.getD e.on false=true
   .intro I;have:j∈Region.ready md ah m:=mem_ready.2 ⟨by rw[Zd1 Qe];exact F,_,ho,o⟩;rw[I]at this;cases this
   .simp only[Classical.not_forall]at o;obtain⟨e,he,hb,hn⟩:=o;have J:e.on<j:=(g e he).resolve_left (by simp[hb]);exact y e.on J Qe (by simpa using hn)
theorem Z80{Q:Exit->Act->kV->Prop}:∀(l:List Nat) (m:Array Bool) (a:Act) (w:kV),X6 md ah l m=true->
 wpList P ah Q (l.filterMap (ah[·]?)) a w->wpAny P md ah Q l.length m a w
 | [],m,a,w,g,h=>⟨by simpa[X6]using g,h⟩
 |t::l,m,a,w,g,h=>by
   simp only[X6,Bool.and_eq_true,decide_eq_true_eq]at g;refine⟨λp=>(by rw[g.1]at p;cases p),λi hi=>?_⟩;have u:=hi;rw[g.1]at hi;have y:i=t:=by simpa using hi
   subst y;obtain⟨_,o,ho,_⟩:=mem_ready.1 u;rw[List.filterMap_cons,ho]at h;simp only[wpList]at h;have hw:wpOp P ah Q i (wpList P ah Q (l.filterMap (ah[·]?))) a w:=by unfold wpOp;simp only[ho];exact h
   exact wpOp_mono (λa' w' F=>Z80 l _ a' w' g.2 F) hw
def Zal{Q:Exit->Act->kV->Prop}{y:List Nat}(J:Tl md ah y=true)(rY:∀m:Array Bool,m.size=ah.size->(∀j,j<ah.size->m.getD j false=!y.contains j)->X6 md ah y m=true) :
 ∀ (f : Nat) (p : Array Bool) (a : Act) (w : kV), p.size = ah.size → Closed md ah p → (∀ t ∈ y, p.getD t false = false) →
   wpAny P md ah (Ends (wpList P ah Q (y.filterMap (ah[·]?))) Q) f (uJ y p) a w->wpAny P md ah Q (f+y.length) p a w:=by
 have Z:Zna md ah=true:=by
  cases y with
  |nil=>simp[Tl]at J
  |cons t r=>simp only[Tl,Bool.and_eq_true]at J;exact J.1.1.1
 have iO:∀t∈y,t<ah.size:=by
  cases y with
  |nil=>simp[Tl]at J
  |cons t r=>
    simp only[Tl,Bool.and_eq_true]at J;intro u hu;simpa using List.all_eq_true.1 J.1.1.2 u hu
 have fin:∀(g:Nat) (p:Array Bool) (a:Act) (w:kV),p.size=ah.size->(∀t∈y,p.getD t false=false)->(∀j,j<ah.size->j∉y->p.getD j false=true)->
  wpList P ah Q (y.filterMap (ah[·]?)) a w->wpAny P md ah Q (g+y.length) p a w:=by
  intro g p a w hs O U h;refine Zge (Nat.le_add_left _ _) (Z80 y p a w (rY p hs λj X=>?_) h);by_cases I:j∈y;·rw[O j I];simp[I]
  .rw[U j X I];simp[I]
 have done:∀(p:Array Bool),p.size=ah.size->Region.ready md ah (uJ y p)=[]->∀j,j<ah.size->j∉y->p.getD j false=true:=by
  intro p hs hr j X I;cases h:p.getD j false with
  |true=>rfl
  |false=>exact absurd hr (Z8t Z (by rw[Z3s];exact hs) j X (by rw[Z3z false I];exact h))
 intro f;induction f with
 |zero=>
   intro p a w hs hc O h;exact fin 0 p a w hs O (done p hs h.1) h.2
 |succ f ih=>
   intro p a w hs hc O h;by_cases U:∀j,j<ah.size->j∉y->p.getD j false=true
   .refine fin (f+1) p a w hs O U (h.1 ?_);refine List.eq_nil_iff_forall_not_mem.2 λi hi=>?_;obtain⟨F,o,ho,_⟩:=mem_ready.1 hi;have ff:i<ah.size:=(Y1.1 ho).1;rw[Zd1 (by rw[Z3s];omega)]at F;by_cases Y:i∈y;·rw[Z4k Y Qe]at F;cases F
    .rw[Z3z false Y,U i ff Y]at F;cases F
   .simp only[Classical.not_forall]at U;obtain⟨j,X,I,yQ⟩:=U;have yS:p.getD j false=false:=by simpa using yQ
    have LD:=Znn J hc O X I yS;rw[show f+1+y.length=(f+y.length)+1 by omega];refine⟨λF=>absurd F (Z8t Z hs j X yS),λi hi=>?_⟩;have Y:i∉y:=λhp=>LD i hp hi;obtain⟨F,o,ho,Id⟩:=mem_ready.1 hi;have yR:i∈Region.ready md ah (uJ y p):=mem_ready.2 ⟨by rw[Z3z true Y];exact F,o,ho,λe he hb=>Z3g (Id e he hb)⟩;refine wpOp_mono (λa' w' h'=>?_) (Zns (h.2 i yR));refine ih _ a' w' (by simpa using hs) (hc.set hi) (λt ht=>?_) (by rw[Zhb];exact h');rw[getD_set_ne false (by rintro rfl;exact Y ht)]
    exact O t ht
def za(P:Program)(ah:Array Oper)(Q:Exit->Act->kV->Prop)(S:kV->Prop):List (Bool×Oper)->Act->kV->Prop
 | [],a,w=>Q .normal a w
 |(true,o)::r,a,w=>∃v,YieldsIf P ah S o v a/\za P ah Q S r (a.put o.dst v) w
 |(false,o)::r,a,w=>if Region.wanted o (yielded ah a.tmps)=true then o.wp P a w (λa' w'=>S w'/\za P ah Q S r a' w') Q else za P ah Q S r (a.put o.dst undef) w
def ZC(md:Region.Mode)(ah:Array Oper):List (Bool×Nat)->Array Bool->Bool
 | [],g=>(Region.ready md ah g).isEmpty
 |(true,i)::r,g=>(Region.ready md ah g).contains i&&Region.free md ah g i&&ZC md ah r (g.setIfInBounds i true)
 |(false,i)::r,g=>decide (Region.ready md ah g=[i])&&ZC md ah r (g.setIfInBounds i true)
def Ud(ah:Array Oper)(l:List (Bool×Nat)):List (Bool×Oper):=l.filterMap λx=>(ah[x.2]?).map λo=>(x.1,o)
theorem Z4q{Q:Exit->Act->kV->Prop}{S:kV->Prop}(y:Region.noSelect ah=true)(F:∀c a d v w,Q (.panic c) (Act.put a d v) w->Q (.panic c) a w) :
 ∀(l:List (Bool×Nat)) (g:Array Bool) (a:Act) (w:kV),ZC md ah l g=true->S w->za P ah Q S (Ud ah l) a w->wpAnyH P md ah Q S l.length g a w
 | [],g,a,w,m,_,h=>⟨by simpa[ZC]using m,h⟩
 |(true,i)::l,g,a,w,m,p,h=>by
   simp only[ZC,Bool.and_eq_true]at m;obtain⟨⟨hr,hf⟩,I⟩:=m;obtain⟨_,o,ho,_⟩:=mem_ready.1 (show i∈Region.ready md ah g by simpa using hr);have e:Ud ah ((true,i)::l)=(true,o)::Ud ah l:=by simp[Ud,ho]
   rw[e]at h;obtain⟨v,J,u⟩:=h;exact wpAnyH_take ho y hf hr (λc a w=>F c a _ _ w) J p (Z4q y F l _ _ w I p u)
 |(false,i)::l,g,a,w,m,p,h=>by
   simp only[ZC,Bool.and_eq_true,decide_eq_true_eq]at m;obtain⟨hr,I⟩:=m;obtain⟨_,o,ho,_⟩:=mem_ready.1 (show i∈Region.ready md ah g by rw[hr];simp);have e:Ud ah ((false,i)::l)=(false,o)::Ud ah l:=by simp[Ud,ho]
   rw[e]at h;refine wpAnyH_all hr Qm λk hk=>?_;have O:k=i:=Ru
   subst O;unfold wpOp;simp only[ho];unfold za at h;split at h
   .rename_i hw;rw[Y5 hw];exact .inl (Oper.wp_mono (λa' w' u=>⟨u.1,Z4q y F l _ a' w' I u.1 u.2⟩) h)
   .rename_i hw;rw[Y3 hw];exact⟨p,Z4q y F l _ _ w I p h⟩
def Zam{Q:Exit->Act->kV->Prop}{S:kV->Prop}{o:Oper}{r:List (Bool×Oper)}{a:Act}{w:kV}(v:Value)
 (hw:Region.wanted o (yielded ah a.tmps)=true)(g:∀w',S w'->(execOp a.eval o).run P w'=.ok (.value v) w')(h:za P ah Q S r (a.put o.dst v) w):za P ah Q S ((true,o)::r) a w:=
 ⟨v,.inl ⟨hw,g⟩,h⟩
def Zgi{Q:Exit->Act->kV->Prop}{S:kV->Prop}{o:Oper}{r:List (Bool×Oper)}{a:Act}{w:kV}
 (hw:Region.wanted o (yielded ah a.tmps)=false)(h:za P ah Q S r (a.put o.dst undef) w):za P ah Q S ((true,o)::r) a w:=
 ⟨undef,.inr ⟨hw,rfl⟩,h⟩
def Zqd{Q:Exit->Act->kV->Prop}{S:kV->Prop}{o:Oper}{r:List (Bool×Oper)}{a:Act}{w:kV}(v:Value)(h:za P ah Q S r (a.put o.dst v) w)
 (hw:Region.wanted o (yielded ah a.tmps)=true:=by rfl)(hy:∀w',S w'->(execOp a.eval o).run P w'=.ok (.value v) w':=by(intro w' lW;(repeat(have Ii:=lW.1;replace lW:=lW.2));go_simp;first|done|with_reducible rfl)) :
 za P ah Q S ((true,o)::r) a w:=⟨v,.inl ⟨hw,hy⟩,h⟩
def Zp0{Q:Exit->Act->kV->Prop}{S:kV->Prop}{o:Oper}{r:List (Bool×Oper)}{a:Act}{w:kV}(h:za P ah Q S r (a.put o.dst undef) w)
 (hw:Region.wanted o (yielded ah a.tmps)=false:=by rfl):za P ah Q S ((true,o)::r) a w:=⟨undef,.inr ⟨hw,rfl⟩,h⟩
def Ze{Q:Exit->Act->kV->Prop}{S:kV->Prop}{o:Oper}{r:List (Bool×Oper)}{a:Act}{w:kV}
 (h:∀K:Act->kV->Prop,(∀a' w',S w'->za P ah Q S r a' w'->K a' w')->if Region.wanted o (yielded ah a.tmps)=true then o.wp P a w K Q else K (a.put o.dst undef) w) :
 za P ah Q S ((false,o)::r) a w:=by
 unfold za;by_cases hw:Region.wanted o (yielded ah a.tmps)=true
 .rw[Y5 hw];have:=h (λa' w'=>S w'/\za P ah Q S r a' w') (λ_ _ g m=>⟨g,m⟩);rwa[Y5 hw]at this
 .rw[Y3 hw];have:=h (λa' w'=>S w'/\za P ah Q S r a' w') (λ_ _ g m=>⟨g,m⟩);rw[Y3 hw]at this;exact this.2
theorem Z1{Q:Exit->Act->kV->Prop}{S:kV->Prop}{a:Act}{w:kV}{l:List Oper}(h:wpList P ah Q l a w):za P ah (Ends (wpList P ah Q l) Q) S [] a w:=h
def VI(md:Region.Mode)(ah:Array Oper)(m:List (Bool×Nat))(g:List Nat):Bool:=
 Region.noSelect ah&&Tl md ah g&&X6 md ah g (((List.range ah.size).map λj=>!g.contains j).toArray)&&ZC md ah m (uJ g (Array.replicate ah.size false))&&decide (m.length+g.length=ah.size)
def Z9{Q:Exit->Act->kV->Prop}{id:Nat}{l:List Oper}{a:Act}{w:kV}(p:List (Bool×Nat))(ph:List Nat)(S:kV->Prop)(I:P.follows .mixedOrders=true)
 (y:VI .any l.toArray p ph=true)(J:∀c a d v w,Q (.panic c) (Act.put a d v) w->Q (.panic c) a w)(F:S w.drew)
 (h:S w.drew->za P l.toArray (Ends (wpList P l.toArray Q (ph.filterMap (l.toArray[·]?))) Q) S (Ud l.toArray p) a w.drew):(Code.region id l.toArray true).wp P Q a w:=by
 simp only[VI,Bool.and_eq_true,decide_eq_true_eq]at y;obtain⟨⟨⟨⟨O,r8⟩,rY⟩,U⟩,X⟩:=y;refine wp_region_any I ?_;have Y:∀t∈ph,t<l.toArray.size:=by
  exact Zwk
 have H:=Z4q (P:=P) (md:=.any) (Q:=Ends (wpList P l.toArray Q (ph.filterMap (l.toArray[·]?))) Q) O J p _ a w.drew U F (h F);have g:=Zal (Q:=Q) r8 (λm hs rX=>?_) p.length (Array.replicate l.toArray.size false) a w.drew Qm ?_ ?_ (wpAny_of_held _ _ _ _ H);·rw[X]at g;exact g
 .exact Acy
 .intro j o _ hl;rw[Z6f]at hl;cases hl
 .intro t _;exact Z6f _ _
def o4{Q:Exit->Act->kV->Prop}{id:Nat}{l:List Oper}{a:Act}{w:kV}(gE:List (Bool×Nat))(ph:List Nat)(S:kV->Prop)(hS:S w.drew)
 (h:S w.drew->za P l.toArray (Ends (wpList P l.toArray Q (ph.filterMap (l.toArray[·]?))) Q) S (Ud l.toArray gE) a w.drew)
 (hm:P.follows .mixedOrders=true:=by kernel_rfl)(hB:VI .any l.toArray gE ph=true:=by kernel_rfl)(hQ:∀c a d v w,Q (.panic c) (Act.put a d v) w->Q (.panic c) a w:=by(intro _ _ d _ _ h;cases d<;>exact h)):(Code.region id l.toArray true).wp P Q a w:=
 Z9 gE ph S hm hB hQ hS h
def pD(n:Nat):Bool×Nat:=(n %2==0,n/2)
def Z7{Q:Exit->Act->kV->Prop}{id:Nat}{l:List Oper}{a:Act}{w:kV}(gE:List Nat)(ph:List Nat)(S:kV->Prop)(hS:S w.drew)
 (h:S w.drew->za P l.toArray (Ends (wpList P l.toArray Q (ph.filterMap (l.toArray[·]?))) Q) S (Ud l.toArray (gE.map pD)) a w.drew)(hm:P.follows .mixedOrders=true:=by kernel_rfl)
 (hB:VI .any l.toArray (gE.map pD) ph=true:=by kernel_rfl)(hQ:∀c a d v w,Q (.panic c) (Act.put a d v) w->Q (.panic c) a w:=by(intro _ _ d _ _ h;cases d<;>exact h)):(Code.region id l.toArray true).wp P Q a w:=
 Z9 (gE.map pD) ph S hm hB hQ hS h
end
def LHeap.declare(H:LHeap)(n:Int)(name:kB)(kind:Int)(v:LVal):LHeap×Int:=
 match H.scope? n with
 |none=>(H,7)
 |some s=>
   if 0<=s.object then(H,1)
   else if H.has n name then(H,9)
   else({H with scopes:=H.scopes.set n.toNat {s with names:=s.names++[⟨name,v,kind,!decide (kind=1)&& !decide (kind=2)⟩]}},0)
section
variable {ρ:Nat->Option Role}{w:kV}{hb ho:Nat}{L:HL}{H:LHeap}
def Zhp{w1 w2:kV}{m g cap:Nat}{s:LScope}{nv:Value}{b:LBind}{T:TypeId}(h:HeapAt ρ w1 hb ho L H)(F:H.scopes[m]?=some s)(jU:nv=L.nv m)
 (ac:w1.heap[L.sb m]?=some (.cells #[vI s.outer,vI s.object,nv] 141 (0,0)))
 (I:((w1.alloc (.cells b.cells.toArray T)).drew).grownBy w2 nv.ownBlock)
 (af:w2.ownsRow 0 185 6 (.slice (some ⟨g,0,none⟩) (s.names.length+1) cap) (s.names.length+1) (s.names.flatMap LBind.cells++b.cells))
 (gM:nv.ownBlock=some g\/g=w1.heap.size+1) :
 ∃ ρ' U, HeapAt ρ' (w2.setCell ⟨L.sb m, 2, none⟩ (.slice (some ⟨g, 0, none⟩) (s.names.length + 1) cap)) hb ho U { H with scopes := H.scopes.set m { s with names := s.names ++ [b] } } ∧
   Fr ρ ρ' hb ho w1 (w2.setCell ⟨L.sb m,2,none⟩ (.slice (some ⟨g,0,none⟩) (s.names.length+1) cap)):=by
 have J:=getElem?_lt F;have p:kW w1 ((w1.alloc (.cells b.cells.toArray T)).drew):=((Y2 _ _).alloc (Y0 _) _).drew;have u:L.sb m<w1.heap.size:=(Y1.1 ac).1;have y:nv.ownBlock≠some (L.sb m):=λe=>by
  rw[jU]at e;have o:=h.rnv m _ J e;rw[h.rsb m J]at o;cases o
 have gJ:g≠L.sb m:=by
  rcases gM with h'|h';·rintro rfl;exact y h'
  .omega
 have X:w1.cell? ⟨L.sb m,2,none⟩=some nv:=Qk
 obtain⟨k1,k2,k3,Y,k5,k6,Z,k8,k9,jF⟩:=Z4d (.slice (some ⟨g,0,none⟩) (s.names.length+1) cap) p I u y X;have jh:w2.heap[L.sb m]?=some (.cells #[vI s.outer,vI s.object,nv] 141 (0,0)):=
  (I.block _ (Y7 u p.size) (λe=>y e.symm)).trans ((p.block _ u).trans ac)
 refine h.setNames F (nv':=.slice (some ⟨g,0,none⟩) (s.names.length+1) cap) (names':=s.names++[b]) ?_ ?_ Z ?_ ?_ k8 k9 jF;·exact Zk _ jh
 .exact Zwa
 .intro b' o h2 O;rw[<-jU]at O;exact Y b' o h2 O
 .exact Zvx
def Zgb(h:HeapAt ρ w hb ho L H)(m:Nat)(s:LScope)(name:kB)(kind:Int)(vk vn:Int)(vs:kB)(hm:H.scopes[m]?=some s)(aW:¬0<=s.object)(eB:H.has (m:Int) name=false)(g:s.names.length<1099511627776)
 (p:((kind:Int) !=1)=false) :
 kC 60 #[.pointer (some ⟨hb,ho,none⟩),vI m,.string name,vI kind,.agg #[vI vk,vI vn,.string vs]] w λe w'=>e=.returned (cL 0)/\
  ∃ρ' L',HeapAt ρ' w' hb ho L' {H with scopes:=H.scopes.set m {s with names:=s.names++[⟨name,⟨vk,vn,vs⟩,kind,false⟩]}}/\Fr ρ ρ' hb ho w w':=by
 exact tq4
def Zgu(h:HeapAt ρ w hb ho L H)(m:Nat)(s:LScope)(name:kB)(kind:Int)(vk vn:Int)(vs:kB)(hm:H.scopes[m]?=some s)(aW:¬0<=s.object)(eB:H.has (m:Int) name=false)(g:s.names.length<1099511627776)
 (p:((kind:Int) !=1)=true)(u:((kind:Int) !=2)=false) :
 kC 60 #[.pointer (some ⟨hb,ho,none⟩),vI m,.string name,vI kind,.agg #[vI vk,vI vn,.string vs]] w λe w'=>e=.returned (cL 0)/\
  ∃ρ' L',HeapAt ρ' w' hb ho L' {H with scopes:=H.scopes.set m {s with names:=s.names++[⟨name,⟨vk,vn,vs⟩,kind,false⟩]}}/\Fr ρ ρ' hb ho w w':=by
 exact tq4
def Zfz(h:HeapAt ρ w hb ho L H)(m:Nat)(s:LScope)(name:kB)(kind:Int)(vk vn:Int)(vs:kB)(hm:H.scopes[m]?=some s)(aW:¬0<=s.object)(p:H.has (m:Int) name=false)(Y:s.names.length<1099511627776)
 (Z:((kind:Int) !=1)=true)(k2:((kind:Int) !=2)=true) :
 kC 60 #[.pointer (some ⟨hb,ho,none⟩),vI m,.string name,vI kind,.agg #[vI vk,vI vn,.string vs]] w λe w'=>e=.returned (cL 0)/\
  ∃ρ' g,HeapAt ρ' w' hb ho g {H with scopes:=H.scopes.set m {s with names:=s.names++[⟨name,⟨vk,vn,vs⟩,kind,true⟩]}}/\Fr ρ ρ' hb ho w w':=by
 refine Zol ?_;intro cA ey;refine UP ?_;intro h1 cu;refine Wu ?_;intro jE;have y:=lh (UY h1 m (getElem?_lt hm));have u:=lh (Vu h1 (m:Int) name);rw[p]at u;obtain⟨i0,hi,F,I,J⟩:=info_parts Mo;obtain⟨HH,HB,HM⟩:=ds h1 cu hm;clear h h1 cu hm p;go_enter func60,ntmps60
 go_wp2_with fail
 refine y.o.mono ?_;rintro e w1⟨rfl,rfl⟩;go_wp2_with fail
 refine u.o.mono ?_;rintro e w1⟨rfl,hB⟩;obtain⟨q0,q1,q2,f0,f1,f2,hs,dn⟩:=Z' hB;have eU:=HH.o.below hB;obtain⟨ac,af⟩:=eU.scp m s HM.o;obtain⟨nv,jU⟩:=zX (L.nv m)
 rw[<-jU]at ac af;refine Aci ?_;clear hB dn eU ac af jU;intro aM d2 kG eK qW HO HN th au qX;go_wp2_with fail
 refine Z7 [0,2,4,6,8,10,12,14,16,18,20,22,24,26,28,31,33] [17,18,19] (λW=>vC W (L.sb m) 2 nv/\vC W w.heap.size 0 (vI vk)/\vC W w.heap.size 1 (vI vn)/\vC W w.heap.size 2 (.string vs)) ⟨d2,q0,q1,q2⟩ λ_=>?_;refine dS ?_
 iterate 15
  refine dq ?_
 refine Zu2 ?_;intro K hK;refine step_append_lies _ Qt (.tmp 40) (.tmp 51) 139 Qt 0 185 i0 _ 6 64 underlying139 hi F I J rfl Qg nv s.names.length (s.names.flatMap LBind.cells) Qt ((HO.o.alloc _).drew) ⟨w1.heap.size,0,none⟩ 1 1 (LBind.cells ⟨name,⟨vk,vn,vs⟩,kind,true⟩) Qt rfl (Ya (cs:=(LBind.cells ⟨name,⟨vk,vn,vs⟩,kind,true⟩).toArray) (t:=185) (fr:=(0,0)) (Yq w1 _)) (by simp[LBind.cells,Value.oneCell']) Qg Qj Qe Qe (w1.heap.size+1) Qm ?_
 refine Aa5 ?_;clear hK K;intro gg cap w2 rM e2 HG HW HT uQ;go_wp2;go_ret;refine⟨rfl,?_⟩;have O:=Zhp (b:=⟨name,⟨vk,vn,vs⟩,kind,true⟩) eK.o HM.o HN.o qW.o HG.o HW.o HT.o;obtain⟨ρ',g,U,X⟩:=O;exact⟨ρ',g,U,(Fr.of_below cA au.o).trans X⟩
def Zae(h:HeapAt ρ w hb ho L H)(n:Int)(name:kB)(kind:Int)(v:LVal)(g:∀(m:Nat) (s:LScope),H.scopes[m]?=some s->s.names.length<1099511627776) :
 kC 60 #[.pointer (some ⟨hb,ho,none⟩),vI n,.string name,vI kind,v.agg] w λe w'=>e=.returned (cL (H.declare n name kind v).2)/\
  ∃ρ' J,HeapAt ρ' w' hb ho J (H.declare n name kind v).1/\Fr ρ ρ' hb ho w w':=by
 refine Zol ?_;intro cA ey;obtain⟨vk,vn,vs⟩:=v;simp only[LVal.agg];refine UP ?_;intro h1 cu;rcases hob:H.scope? n with _|s
 .have HC:=lh (WI h1 n hob);have hd:H.declare n name kind ⟨vk,vn,vs⟩=(H,7):=by simp[LHeap.declare,hob]
  rw[hd];have HH:=lh h1;have HB:=lh cu;clear h h1 hob g hd cu;go_enter func60,ntmps60
  exact TN
 .obtain⟨m,rfl,hm⟩:=LHeap.scope?_some hob;refine Wu ?_;intro jE;have HC:=lh (UY h1 m (getElem?_lt hm));by_cases aW:0<=s.object
  .have hd:H.declare m name kind ⟨vk,vn,vs⟩=(H,1):=by simp[LHeap.declare,hob,aW]
   rw[hd];have HH:=lh h1;have HB:=lh cu;clear h h1 hob g hd cu hm;go_enter func60,ntmps60
   exact TN
  .have y:=lh (Vu h1 (m:Int) name);by_cases hq:H.has (m:Int) name=true
   .have hd:H.declare m name kind ⟨vk,vn,vs⟩=(H,9):=by simp[LHeap.declare,hob,aW,hq]
    rw[hd];rw[hq]at y;have HH:=lh h1;have HB:=lh cu;clear h h1 hob g hd cu hm hq;go_enter func60,ntmps60
    go_wp2_with fail
    refine HC.o.mono ?_;rintro e w1⟨rfl,rfl⟩;go_wp2_with fail
    refine y.o.mono ?_;rintro e w1⟨rfl,F⟩;have I:=lh F;clear F;go_wp2;go_ret;exact⟨rfl,ρ,L,HH.o.below I.o,Fr.of_below cA (HB.o.trans (I.o.mono HB.o.size))⟩
   .have o:H.has (m:Int) name=false:=by simpa using hq
    have hd:H.declare m name kind ⟨vk,vn,vs⟩=({H with scopes:=H.scopes.set m {s with names:=s.names++[⟨name,⟨vk,vn,vs⟩,kind,!decide (kind=1)&& !decide (kind=2)⟩]}},0):=by simp[LHeap.declare,hob,aW,o]
    rw[hd];have u:=g m s hm;by_cases k1:kind=1
    .have e:(!decide (kind=1)&& !decide (kind=2))=false:=by simp[k1]
     rw[e];exact Zgb h m s name kind vk vn vs hm aW o u SA
    .by_cases p:kind=2
     .have e:(!decide (kind=1)&& !decide (kind=2))=false:=by simp[p]
      rw[e];exact Zgu h m s name kind vk vn vs hm aW o u SA (by simp[p])
     .have e:(!decide (kind=1)&& !decide (kind=2))=true:=by simp[k1,p]
      rw[e];exact Zfz h m s name kind vk vn vs hm aW o u SA (by simp[p])
end
def LHeap.put(H:LHeap)(n:Int)(name:kB)(v:LVal)(fixed:Bool):LHeap×Int:=
 match H.object? n with
 |none=>(H,7)
 |some o=>
   match o.idx name with
   |some k=>({H with objects:=H.objects.set n.toNat {o with props:=o.props.modify k λp=>{p with v:=v}}},0)
   |none=>({H with objects:=H.objects.set n.toNat {o with props:=o.props++[⟨name,v,fixed⟩]}},0)
theorem MO:(Tryz.prog.info? 134).map (λi=>(i.zero,i.size,i.bytes))=some (some (.agg #[.string ⟨#[]⟩,vI 0,vI 0,.string ⟨#[]⟩,.bool false]),5,56):=by kernel_rfl
def Z8r{w:kV}{base:Nat}{e:TypeId}{m:Nat}{g cap n:Nat}{α:Type}{f:α->List Value}{l:List α}(hf:∀a,(f a).length=m)
 (h:w.ownsRow base e m (.slice (some ⟨g,0,none⟩) n cap) n (l.flatMap f)){k:Nat}{a a':α}(hk:l[k]?=some a){j:Nat}(I:j+2<m){x y z:Value}
 (u:f a'=(((f a).set j x).set (j+1) y).set (j+2) z) :
 (((w.setCell ⟨g,k*m+j,none⟩ x).setCell ⟨g,k*m+j+1,none⟩ y).setCell ⟨g,k*m+j+2,none⟩ z).ownsRow base e m (.slice (some ⟨g,0,none⟩) n cap) n ((l.set k a').flatMap f):=by
 have o:=((((h.stored (k*m+j) x).1.stored (k*m+j+1) y).1).stored (k*m+j+2) z).1;have p:=getElem?_lt hk;have:(l.set k a').flatMap f=(((l.flatMap f).set (k*m+j) x).set (k*m+j+1) y).set (k*m+j+2) z:=by
  clear h o;induction l generalizing k with
  |nil=>simp at p
  |cons b l F=>
    cases k with
    |zero=>
      simp only[List.getElem?_cons_zero,Option.some.injEq]at hk;subst hk;refine Zty ?_;rw[List.set_append_left _ _ (by rw[hf];omega),List.set_append_left _ _ RG,List.set_append_left _ _ RG,u]
    |succ k=>
      simp only[List.getElem?_cons_succ]at hk;simp only[List.set_cons_succ,List.flatMap_cons];have e:(k+1)*m+j=(f b).length+(k*m+j):=RN
      rw[e,List.set_append_right _ _ Qe,Nat.add_sub_cancel_left,List.set_append_right _ _ Qe,List.set_append_right _ _ Qe];rw[show(f b).length+(k*m+j)+1-(f b).length=k*m+j+1 by omega,show(f b).length+(k*m+j)+2-(f b).length=k*m+j+2 by omega];rw[F hk (by simpa using p)]
 rw[this];exact o
def Zil{α:Type}{l:List α}{k:Nat}{a:α}(f:α->α)(h:l[k]?=some a):l.modify k f=l.set k (f a):=by
 induction l generalizing k with
 |nil=>simp at h
 |cons b l g=>
   cases k with
   |zero=>simp only[List.getElem?_cons_zero,Option.some.injEq]at h;subst h;rfl
   |succ k=>simp only[List.getElem?_cons_succ]at h;simp[List.modify_succ_cons,g h]
section
variable {ρ:Nat->Option Role}{w:kV}{hb ho:Nat}{L:HL}{H:LHeap}
def Zv2{w1:kV}{m k g c:Nat}{o:LObj}{p:LProp}{vk vn:Int}{vs:kB}(h:HeapAt ρ w1 hb ho L H)(u:H.objects[m]?=some o)(hp:o.props[k]?=some p)
 (hv:L.pv m=.slice (some ⟨g,0,none⟩) o.props.length c) :
 ∃ ρ' I, HeapAt ρ' (((w1.setCell ⟨g, k * 5 + 1, none⟩ (vI vk)).setCell ⟨g, k * 5 + 1 + 1, none⟩ (vI vn)).setCell ⟨g, k * 5 + 1 + 2, none⟩ (.string vs)) hb ho I { H with objects := H.objects.set m { o with props := o.props.set k { p with v := ⟨vk, vn, vs⟩ } } } ∧
   Fr ρ ρ' hb ho w1 (((w1.setCell ⟨g,k*5+1,none⟩ (vI vk)).setCell ⟨g,k*5+1+1,none⟩ (vI vn)).setCell ⟨g,k*5+1+2,none⟩ (.string vs)):=by
 have dw:=getElem?_lt u;obtain⟨J,F⟩:=h.obj m o u;have O:g≠L.ob m:=λe=>by
  exact Zvy
 rw[hv]at F;have hst:=Z8r (f:=LProp.cells) (m:=5) (λ_=>rfl) F hp (j:=1) Qe (x:=(vI vk)) (y:=(vI vn)) (z:=.string vs) (a':={p with v:=⟨vk,vn,vs⟩}) rfl;have far:∀b,b≠g->(((w1.setCell ⟨g,k*5+1,none⟩ (vI vk)).setCell ⟨g,k*5+1+1,none⟩ (vI vn)).setCell ⟨g,k*5+1+2,none⟩ (.string vs)).heap[b]?=w1.heap[b]?:=λb hb=>by
  exact Zxg
 refine h.setProps u (nv':=.slice (some ⟨g,0,none⟩) o.props.length c) (props':=o.props.set k {p with v:=⟨vk,vn,vs⟩}) ?_ ?_ Qm ?_ ?_ rfl rfl rfl;·rw[far _ (Ne.symm O),<-hv];exact J
 .simp only[List.length_set];exact hst
 .exact Zsk
 .intro X U;rw[hv];exact .inl U
def Zuw{w1 w2:kV}{m g cap:Nat}{o:LObj}{nv:Value}{b:LProp}{T:TypeId}(h:HeapAt ρ w1 hb ho L H)(I:H.objects[m]?=some o)(jU:nv=L.pv m)
 (ac:w1.heap[L.ob m]?=some (.cells #[nv,vI o.code] 129 (0,0)))
 (J:((w1.alloc (.cells b.cells.toArray T)).drew).grownBy w2 nv.ownBlock)
 (af:w2.ownsRow 0 134 5 (.slice (some ⟨g,0,none⟩) (o.props.length+1) cap) (o.props.length+1) (o.props.flatMap LProp.cells++b.cells))
 (gM:nv.ownBlock=some g\/g=w1.heap.size+1) :
 ∃ ρ' X, HeapAt ρ' (w2.setCell ⟨L.ob m, 0, none⟩ (.slice (some ⟨g, 0, none⟩) (o.props.length + 1) cap)) hb ho X { H with objects := H.objects.set m { o with props := o.props ++ [b] } } ∧
   Fr ρ ρ' hb ho w1 (w2.setCell ⟨L.ob m,0,none⟩ (.slice (some ⟨g,0,none⟩) (o.props.length+1) cap)):=by
 have O:=getElem?_lt I;have u:kW w1 ((w1.alloc (.cells b.cells.toArray T)).drew):=((Y2 _ _).alloc (Y0 _) _).drew;have y:L.ob m<w1.heap.size:=(Y1.1 ac).1;have F:nv.ownBlock≠some (L.ob m):=λe=>by
  rw[jU]at e;have p:=h.rpv m _ O e;rw[h.rob m O]at p;cases p
 have gJ:g≠L.ob m:=by
  rcases gM with h'|h';·rintro rfl;exact F h'
  .omega
 have Y:w1.cell? ⟨L.ob m,0,none⟩=some nv:=Qk
 obtain⟨k1,k2,k3,Z,k5,k6,k7,k8,k9,jF⟩:=Z4d (.slice (some ⟨g,0,none⟩) (o.props.length+1) cap) u J y F Y;have jh:w2.heap[L.ob m]?=some (.cells #[nv,vI o.code] 129 (0,0)):=
  (J.block _ (Y7 y u.size) (λe=>F e.symm)).trans ((u.block _ y).trans ac)
 refine h.setProps I (nv':=.slice (some ⟨g,0,none⟩) (o.props.length+1) cap) (props':=o.props++[b]) ?_ ?_ k7 ?_ ?_ k8 k9 jF;·exact Zk _ jh
 .exact Zwa
 .intro b' p h2 U;rw[<-jU]at U;exact Z b' p h2 U
 .exact Zvx
def Zl1(h:HeapAt ρ w hb ho L H)(n:Int)(name:kB)(v:LVal)(fixed:Bool)(X:∀(m:Nat) (o:LObj),H.objects[m]?=some o->o.props.length<1099511627776) :
 kC 20 #[.pointer (some ⟨hb,ho,none⟩),vI n,.string name,v.agg,.bool fixed] w λe w'=>e=.returned (cL (H.put n name v fixed).2)/\
  ∃ρ' F,HeapAt ρ' w' hb ho F (H.put n name v fixed).1/\Fr ρ ρ' hb ho w w':=by
 refine Zol ?_;intro cA ey;obtain⟨vk,vn,vs⟩:=v;simp only[LVal.agg];refine UP ?_;intro h1 cu;rcases hob:H.object? n with _|o
 .have HC:=lh (Z87 h1 n hob);have hd:H.put n name ⟨vk,vn,vs⟩ fixed=(H,7):=by simp[LHeap.put,hob]
  rw[hd];have HH:=lh h1;have HB:=lh cu;clear h h1 hob X hd cu;go_enter func20,ntmps20
  exact TN
 .obtain⟨m,rfl,hm⟩:=LHeap.object?_some hob;have Y:=getElem?_lt hm;have HC:=lh (Z70 h1 m Y);have HF:=lh (Zd8 h1 m o hm name);have ia:=X m o hm;rcases hk:o.idx name with _|k
  .have hd:H.put m name ⟨vk,vn,vs⟩ fixed=({H with objects:=H.objects.set m {o with props:=o.props++[⟨name,⟨vk,vn,vs⟩,fixed⟩]}},0):=by simp[LHeap.put,hob,hk]
   rw[hd];rw[hk]at HF;obtain⟨i0,hi,aC,bj,bJ⟩:=info_parts MO;have HH:=lh h1;have I:=lh hm;clear h h1 hob X hd cu hm hk;go_enter func20,ntmps20
   go_wp2_with fail
   refine HC.o.mono ?_;rintro e w1⟨rfl,rfl⟩;go_wp2_with fail
   refine Znj ?_;intro w1 hB;obtain⟨q0,q1,q2,f0,f1,f2,hs,J⟩:=Z' hB;have u:=HH.o.below hB;obtain⟨ac,y⟩:=u.obj m o I.o;obtain⟨nv,O⟩:=zX (L.pv m)
   rw[<-O]at ac y;have aM:L.ob m<w1.heap.size:=(Y1.1 ac).1;have d2:w1.cell? ⟨L.ob m,0,none⟩=some nv:=Qk
   have kG:w1.frozen? ⟨L.ob m,0,none⟩=false:=QN
   have pB:nv.ownBlock≠some (L.ob m):=λe=>by
    rw[O]at e;have h1:=u.rpv m _ Y e;rw[u.rob m Y]at h1;cases h1
   have qX:Hid (nv.ownBlock≠some w.heap.size):=λe=>by
    have h2:=HH.o.rpv m w.heap.size Y (by rw[<-O];exact e);exact absurd (ey w.heap.size (by rw[h2];simp)) Qe
   obtain⟨eK,qW,HO,HN,th,au⟩:=gw u ac y O pB J;clear hB J u ac y O pB;go_wp2_with fail
   refine Z7 [0,2,4,6,8,10,12,14,16,19,21] [11,12,13] (λW=>vC W (L.ob m) 0 nv/\vC W w.heap.size 0 (vI vk)/\vC W w.heap.size 1 (vI vn)/\vC W w.heap.size 2 (.string vs)) ⟨d2,q0,q1,q2⟩ λ_=>?_;refine dS ?_
   iterate 9
    refine dq ?_
   refine Zu2 ?_;intro K hK;refine step_append_lies _ Qt (.tmp 40) (.tmp 45) 127 Qt 0 134 i0 _ 5 56 underlying127 hi aC bj bJ rfl Qg nv o.props.length (o.props.flatMap LProp.cells) Qt ((HO.o.alloc _).drew) ⟨w1.heap.size,0,none⟩ 1 1 (LProp.cells ⟨name,⟨vk,vn,vs⟩,fixed⟩) Qt rfl (Ya (cs:=(LProp.cells ⟨name,⟨vk,vn,vs⟩,fixed⟩).toArray) (t:=134) (fr:=(0,0)) (Yq w1 _)) (by simp[LProp.cells,Value.oneCell']) Qg Qj Qe Qe (w1.heap.size+1) Qm ?_
   intro gg cap w2 aK Z cf im;have U:∀b o,b<w1.heap.size->nv.ownBlock≠some b->w2.cell? ⟨b,o,none⟩=w1.cell? ⟨b,o,none⟩:=λb o ai aw=>(Z.cell_far ⟨b,o,none⟩ Qi (λe=>aw e.symm)).trans (Zb ai);have rM:w2.frozen? ⟨L.ob m,0,none⟩=false:=(Z.frozen_far ⟨L.ob m,0,none⟩ Qi (λe=>th.o e.symm)).trans ((TT aM).trans kG);have e2:=(U _ 0 aM th.o).trans d2;refine hK _ _ ⟨e2,(U _ 0 hs qX.o).trans q0,(U _ 1 hs qX.o).trans q1,(U _ 2 hs qX.o).trans q2⟩ ?_;clear hK K
   simp only[Act.put,zA,zB,zC];obtain⟨HG,HW,HT⟩:=ds Z aK cf;clear Z aK cf im U;refine Z1 ?_;go_wp2;go_ret;refine⟨rfl,?_⟩;obtain⟨ρ',F,hA,hF⟩:=Zuw (b:=⟨name,⟨vk,vn,vs⟩,fixed⟩) eK.o I.o HN.o qW.o HG.o HW.o HT.o;exact⟨ρ',F,hA,(Fr.of_below cA au.o).trans hF⟩
  .obtain⟨p,hp,_⟩:=LObj.idx_some hk;have aY:=getElem?_lt hp;have hd:H.put m name ⟨vk,vn,vs⟩ fixed=({H with objects:=H.objects.set m {o with props:=o.props.set k {p with v:=⟨vk,vn,vs⟩}}},0):=by
    simp only[LHeap.put,hob,hk,Int.toNat_natCast];rw[Zil _ hp]
   rw[hd];rw[hk]at HF;obtain⟨pV,iJ⟩:=h1.obj m o hm;rcases Z4 iJ with⟨hv,hz⟩|⟨g,c,hv,h2,h3,cX⟩;·omega
   unfold maxLen at h3;obtain⟨HH,I,HP,HV⟩:=gp h1 hm hp hv;clear h h1 hob X hd cu hm hk pV iJ hp hv;go_enter func20,ntmps20
   go_wp2_with fail
   refine HC.o.mono ?_;rintro e w1⟨rfl,rfl⟩;go_wp2_with fail
   refine Znj ?_;intro w1 hB;obtain⟨q0,q1,q2,f0,f1,f2,hs,J⟩:=Z' hB;have u:=HH.o.below hB;obtain⟨ac,y⟩:=u.obj m o I.o;have d2:w1.cell? ⟨L.ob m,0,none⟩=some (.slice (some ⟨g,0,none⟩) o.props.length c):=by rw[<-HV.o];simp[vC,World.cell?,ac]
   have ae:=λj x=>SV (f:=LProp.cells) (m:=5) (λ_=>rfl) y (g:=g) Rf (i:=k) (j:=j) (x:=x) HP.o;have r1:=ae 1 _ rfl;have r2:=ae 2 _ rfl;have r3:=ae 3 _ rfl;have z1:=U' y (g:=g) Rf (k*5+1);have z2:=U' y (g:=g) Rf (k*5+1+1);have z3:=U' y (g:=g) Rf (k*5+1+2);have eK:=lh u;have au:=lh J;clear hB J u ac y ae;go_wp2_with fail
   refine Z7 [0,2,4,6,8,10] [6,7,8] (λW=>vC W (L.ob m) 0 (.slice (some ⟨g,0,none⟩) o.props.length c)/\vC W w.heap.size 0 (vI vk)/\vC W w.heap.size 1 (vI vn)/\vC W w.heap.size 2 (.string vs)) ⟨d2,q0,q1,q2⟩ λ_=>?_;refine dS ?_
   iterate 6
    refine dq ?_
   refine Z1 ?_;go_wp2;go_ret;refine⟨rfl,?_⟩;obtain⟨ρ',F,hA,hF⟩:=Zv2 (vk:=vk) (vn:=vn) (vs:=vs) eK.o I.o HP.o HV.o;refine⟨ρ',F,?_,?_⟩;·exact hA.drew
   .exact((Fr.of_below cA au.o).trans hF).drew
end
