import Derived.Test.YtkjdnecemhilpaaGreatDoorJ01
set_option maxRecDepth 100000
set_option maxHeartbeats 20000000
set_option linter.all false
namespace Go.Proofs.YtkjdnecemhilpaaGreatDoor
open Go Go.RowKit Tryz
def cL(c:Int):Value:=if c=0 then .nilIface else .iface 35 (vI c)
def LHeap.read (H:LHeap) (n:Int) (name:kB):LVal×Int:=
 match H.scope? n with
 |none=>(LVal.zero,7)
 |some s=>
   if s.object<0 then
    match(s.idx name).bind λk=>s.names[k]? with
    |none=>(LVal.zero,7)
    |some b=>if b.ready then(b.v,0)else(LVal.zero,6)
   else
    match H.get s.object name with
    |none=>(LVal.zero,7)
    |some v=>(v,0)
section
variable {ρ:Nat->Option Role}{w:kV}{hb ho:Nat}{L:HL}{H:LHeap}
def Z'{w w1:kV}{k n:Int}{s:kB}{T:TypeId}(g:Below (w.alloc (.cells #[vI k,vI n,.string s] T)).heap.size (w.alloc (.cells #[vI k,vI n,.string s] T)) w1) :
 vC w1 w.heap.size 0 (vI k)/\vC w1 w.heap.size 1 (vI n)/\vC w1 w.heap.size 2 (.string s)/\
 w1.frozen? ⟨w.heap.size,0,none⟩=false/\w1.frozen? ⟨w.heap.size,1,none⟩=false/\w1.frozen? ⟨w.heap.size,2,none⟩=false/\w.heap.size<w1.heap.size/\kW w w1:=
 ⟨TA g 0 _ rfl,TA g 1 _ rfl,TA g 2 _ rfl,Z1k g 0,Z1k g 1,Z1k g 2,Z5s g,Xw g⟩
def Zq4(h:HeapAt ρ w hb ho L H)(n:Int)(name:kB) :
 kC 121 #[.pointer (some ⟨hb,ho,none⟩),vI n,.string name] w λe w'=>e=.returned (.tuple #[(H.read n name).1.agg,cL (H.read n name).2])/\kW w w':=by
 have y:∀o,HeapAt ρ (w.alloc o) hb ho L H:=λo=>h.below ((Y2 _ _).alloc (Y0 _) _);have HC:=lh (Vu (y (.cells #[vI 0,vI 0,.string ⟨#[]⟩] 71)) n name);by_cases hq:H.has n name=true
 .rw[hq]at HC;obtain⟨s,hob,F⟩:∃s,H.scope? n=some s/\(if s.object<0 then(s.idx name).isSome else(H.get s.object name).isSome)=true:=by
   exact Zyp
  obtain⟨m,rfl,hm⟩:=LHeap.scope?_some hob;have dw:=getElem?_lt hm;rcases Z4 h.rowS with⟨dD,Y⟩|⟨gs,cs,dD,aL,Z,pK⟩;·omega
  unfold maxLen at Z;have J:H.read m name=if s.object<0 then(match(s.idx name).bind λk=>s.names[k]? with|none=>(LVal.zero,7)|some b=>if b.ready then(b.v,0)else(LVal.zero,6))else(match H.get s.object name with|none=>(LVal.zero,7)|some v=>(v,0)):=by
   simp[LHeap.read,hob]
  refine TO ?_;intro aq;rw[J];by_cases aW:s.object<0
  .rw[Y5 aW]at F ⊢;obtain⟨k,hk⟩:=Option.isSome_iff_exists.1 F;obtain⟨p,hp,_⟩:=LScope.idx_some hk;have aY:=getElem?_lt hp;obtain⟨ac,U⟩:=h.scp m s hm;rcases Z4 U with⟨hv,Y⟩|⟨g,c,hv,h2,I,cX⟩;·omega
   unfold maxLen at I;have X:(s.idx name).bind (λk=>s.names[k]?)=some p:=by rw[hk];exact hp
   simp only[X];obtain⟨pn,⟨pk,pm,ps⟩,uX,ve⟩:=p;refine X9 ?_;intro ae;obtain⟨HF,HR,bE⟩:=ds aq ae (λw1 (hh:HeapAt ρ w1 hb ho L H)=>Z6v hh m s hm name);rw[hk,hv]at bE;simp only[TM,Value.ownBlock,Option.map_some]at bE;have HH:=lh (y (.cells #[vI 0,vI 0,.string ⟨#[]⟩] 71));clear h y hq hob F hm dD J aq hk hp ac U hv X ae;cases ve
   all_goals
    simp only[if_true,Bool.false_eq_true,if_false];go_enter func121,ntmps121
    go_wp2_with fail
    refine U5 ?_;intro w1 q0 q1 q2 f0 f1 f2 hs d0 d1 d2 eK HB;go_wp2_with fail
    refine Zrx ?_;intro w2 ar fp r0 r1 r2 r3;refine Uy ?_;intro mr iq lY;refine Zvf ?_;intro DI DJ DK dT aP;clear ar fp q0 q1 q2 f0 f1 f2 d0 d1 d2;go_wp2
   .refine Yp (v:=.tuple #[.agg #[vI 0,vI 0,.string ⟨#[]⟩],.iface 35 (vI 6)]) ?_ rfl ?_;·simp[results,results121,go_sem,mr,iq,lY]
    .exact Zy1
   .refine Yp (v:=.tuple #[.agg #[vI pk,vI pm,.string ps],.nilIface]) ?_ rfl ?_;·simp[results,results121,go_sem,mr,iq,lY]
    .exact Zy1
  .rw[Y3 aW]at F ⊢;obtain⟨v,hv⟩:=Option.isSome_iff_exists.1 F;simp only[hv];have O:=lh (λw1 (hh:HeapAt ρ w1 hb ho L H)=>Zgy hh s.object name);rw[hv]at O;obtain⟨vk,vn,vs⟩:=v;simp only[Option.getD_some,Option.isSome_some,LVal.agg]at O;have HF:=lh aq;have HH:=lh (y (.cells #[vI 0,vI 0,.string ⟨#[]⟩] 71));clear h y hq hob F hm dD J aq hv;go_enter func121,ntmps121
   go_wp2_with fail
   refine U5 ?_;intro w1 q0 q1 q2 f0 f1 f2 hs d0 d1 d2 eK HB;go_wp2_with fail
   refine(O.o w1 eK.o).mono ?_;rintro e w2⟨rfl,ar⟩;refine Uy ?_;intro mr iq lY;refine Zvf ?_;intro DI DJ DK dT aP;clear ar q0 q1 q2 f0 f1 f2 d0 d1 d2;go_wp2;refine Yp (v:=.tuple #[.agg #[vI vk,vI vn,.string vs],.nilIface]) ?_ rfl ?_;·simp[results,results121,go_sem,mr,iq,lY,dT]
   .have I:=((aP.o.setCell (p:=⟨w.heap.size,0,none⟩) (Y0 _) (vI vk)).setCell (p:=⟨w.heap.size,1,none⟩) (Y0 _) (vI vn)).setCell (p:=⟨w.heap.size,2,none⟩) (Y0 _) (.string vs);exact⟨rfl,I.alloc I.size _⟩
 .have u:H.has n name=false:=by simpa using hq
  rw [u] at HC;have hr:H.read n name=(LVal.zero,7):=by
   unfold LHeap.has at u;unfold LHeap.read;split at u;·rename_i hs;simp[hs]
   .rename_i s hs;simp only[hs];split at u
    .have :s.idx name=none:=by simpa using u
     rename_i aW;rw[Y5 aW,this];rfl
    .have :H.get s.object name=none:=by simpa using u
     rename_i aW;rw[Y3 aW,this]
  rw[hr];clear hq u h y hr;go_enter func121,ntmps121
  go_wp2_with fail
  refine HC.o.mono ?_;rintro e w1⟨rfl,hB⟩;obtain⟨q0,q1,q2,f0,f1,f2,hs,dn⟩:=Z' hB;have HB:=lh dn;clear hB dn;go_wp2;refine Yp (v:=.tuple #[.agg #[vI 0,vI 0,.string ⟨#[]⟩],.iface 35 (vI 7)]) ?_ rfl ?_;·simp[results,results121,go_sem,q0,q1,q2]
  .exact Zzo
end
