import Derived.Test.YtkebnpemgkjpkaaGreatDoorJ03
set_option maxRecDepth 100000
set_option maxHeartbeats 20000000
set_option linter.all false
namespace Go.Proofs.YtkebnpemgkjpkaaGreatDoor
open Go Go.RowKit Go.Proofs.Tryz Tryz
def da(c:Int):Value:=if c=0 then .nilIface else .iface 44 (vI c)
def LHeap.read (H:LHeap) (n:Int) (name:kB):LVal×Int:=
 match H.scope? n with
 |none=>(LVal.zero,7)
 |some s=>
   if s.object<0 then
    match(s.idx name).bind λk=>s.names[k]? with
    |none=>(LVal.zero,7)
    |some b=>if b.ready then(b.v,0)else(LVal.zero,6)
   else
    match H.get s.object name with
    |none=>(LVal.zero,7)
    |some v=>(v,0)
section
variable {ρ:Nat->Option Role}{w:kV}{hb ho:Nat}{L:HL}{H:LHeap}
def Z51{w w1:kV}{k n:Int}{s:kB}{T:TypeId}(g:Below (w.alloc (.cells #[vI k,vI n,.string s] T)).heap.size (w.alloc (.cells #[vI k,vI n,.string s] T)) w1) :
 vC w1 w.heap.size 0 (vI k)/\vC w1 w.heap.size 1 (vI n)/\vC w1 w.heap.size 2 (.string s)/\
 w1.frozen? ⟨w.heap.size,0,none⟩=false/\w1.frozen? ⟨w.heap.size,1,none⟩=false/\w1.frozen? ⟨w.heap.size,2,none⟩=false/\w.heap.size<w1.heap.size/\kW w w1:=
 ⟨Zy g 0 _ rfl,Zy g 1 _ rfl,Zy g 2 _ rfl,Z1n g 0,Z1n g 1,Z1n g 2,Z5k g,Xm g⟩
def Zpk(h:HeapAt ρ w hb ho L H)(n:Int)(name:kB) :
 kC 118 #[.pointer (some ⟨hb,ho,none⟩),vI n,.string name] w λe w'=>e=.returned (.tuple #[(H.read n name).1.agg,da (H.read n name).2])/\kW w w':=by
 have h1:∀o,HeapAt ρ (w.alloc o) hb ho L H:=λo=>h.below ((Y2 _ _).alloc (Y0 _) _);have HC:=lh (Vh (h1 (.cells #[vI 0,vI 0,.string ⟨#[]⟩] 56)) n name);by_cases hq:H.has n name=true
 .rw[hq]at HC;obtain⟨s,hob,y⟩:∃s,H.scope? n=some s/\(if s.object<0 then(s.idx name).isSome else(H.get s.object name).isSome)=true:=by
   exact Zwo
  obtain⟨m,rfl,hm⟩:=LHeap.scope?_some hob;have dw:=getElem?_lt hm;rcases Z4 h.rowS with⟨dt,X⟩|⟨gs,cs,dt,aF,Y,pJ⟩;·omega
  unfold maxLen at Y;have I:H.read m name=if s.object<0 then(match(s.idx name).bind λk=>s.names[k]? with|none=>(LVal.zero,7)|some b=>if b.ready then(b.v,0)else(LVal.zero,6))else(match H.get s.object name with|none=>(LVal.zero,7)|some v=>(v,0)):=by
   simp[LHeap.read,hob]
  refine Tu ?_;intro aq;rw[I];by_cases aU:s.object<0
  .rw[Y5 aU]at y ⊢;obtain⟨k,hk⟩:=Option.isSome_iff_exists.1 y;obtain⟨p,hp,_⟩:=LScope.idx_some hk;have aX:=getElem?_lt hp;obtain⟨Z,O⟩:=h.scp m s hm;rcases Z4 O with⟨hv,X⟩|⟨g,c,hv,h2,F,cV⟩;·omega
   unfold maxLen at F;have U:(s.idx name).bind (λk=>s.names[k]?)=some p:=by rw[hk];exact hp
   simp only[U];obtain⟨pn,⟨pk,pm,ps⟩,uL,uW⟩:=p;refine Aak ?_;intro ae;obtain⟨HF,HR,bB⟩:=ds aq ae (λw1 (hh:HeapAt ρ w1 hb ho L H)=>Z73 hh m s hm name);rw[hk,hv]at bB;simp only[Tm,Value.ownBlock,Option.map_some]at bB;have HH:=lh (h1 (.cells #[vI 0,vI 0,.string ⟨#[]⟩] 56));clear h h1 hq hob y hm dt I aq hk hp Z O hv U ae;cases uW
   all_goals
    simp only[if_true,Bool.false_eq_true,if_false];go_enter func118,ntmps118
    go_wp2_with fail
    refine UL ?_;intro w1 q0 q1 q2 f0 f1 f2 hs d0 d1 d2 eI HB;go_wp2_with fail
    refine Zsq ?_;intro w2 ar fk r0 r1 r2 r3;refine Uh ?_;intro mm jm nW;refine XN ?_;intro Do Dp Dq dK aN;clear ar fk q0 q1 q2 f0 f1 f2 d0 d1 d2;go_wp2
   .refine Yp (v:=.tuple #[.agg #[vI 0,vI 0,.string ⟨#[]⟩],.iface 44 (vI 6)]) ?_ rfl ?_;·simp[results,results118,go_sem,mm,jm,nW]
    .exact Ws
   .refine Yp (v:=.tuple #[.agg #[vI pk,vI pm,.string ps],.nilIface]) ?_ rfl ?_;·simp[results,results118,go_sem,mm,jm,nW]
    .exact Ws
  .rw[Y3 aU]at y ⊢;obtain⟨v,hv⟩:=Option.isSome_iff_exists.1 y;simp only[hv];have J:=lh (λw1 (hh:HeapAt ρ w1 hb ho L H)=>Zhq hh s.object name);rw[hv]at J;obtain⟨vk,vn,vs⟩:=v;simp only[Option.getD_some,Option.isSome_some,LVal.agg]at J;have HF:=lh aq;have HH:=lh (h1 (.cells #[vI 0,vI 0,.string ⟨#[]⟩] 56));clear h h1 hq hob y hm dt I aq hv;go_enter func118,ntmps118
   go_wp2_with fail
   refine UL ?_;intro w1 q0 q1 q2 f0 f1 f2 hs d0 d1 d2 eI HB;go_wp2_with fail
   refine(J.o w1 eI.o).mono ?_;rintro e w2⟨rfl,ar⟩;refine Uh ?_;intro mm jm nW;refine XN ?_;intro Do Dp Dq dK aN;clear ar q0 q1 q2 f0 f1 f2 d0 d1 d2;go_wp2;refine Yp (v:=.tuple #[.agg #[vI vk,vI vn,.string vs],.nilIface]) ?_ rfl ?_;·simp[results,results118,go_sem,mm,jm,nW,dK]
   .have F:=((aN.o.setCell (p:=⟨w.heap.size,0,none⟩) (Y0 _) (vI vk)).setCell (p:=⟨w.heap.size,1,none⟩) (Y0 _) (vI vn)).setCell (p:=⟨w.heap.size,2,none⟩) (Y0 _) (.string vs);exact⟨rfl,F.alloc F.size _⟩
 .have u:H.has n name=false:=by simpa using hq
  rw [u] at HC;have hr:H.read n name=(LVal.zero,7):=by
   unfold LHeap.has at u;unfold LHeap.read;split at u;·rename_i hs;simp[hs]
   .rename_i s hs;simp only[hs];split at u
    .have :s.idx name=none:=by simpa using u
     rename_i aU;rw[Y5 aU,this];rfl
    .have :H.get s.object name=none:=by simpa using u
     rename_i aU;rw[Y3 aU,this]
  rw[hr];clear hq u h h1 hr;go_enter func118,ntmps118
  go_wp2_with fail
  refine HC.o.mono ?_;rintro e w1⟨rfl,hB⟩;obtain⟨q0,q1,q2,f0,f1,f2,hs,dn⟩:=Z51 hB;have HB:=lh dn;clear hB dn;go_wp2;refine Yp (v:=.tuple #[.agg #[vI 0,vI 0,.string ⟨#[]⟩],.iface 44 (vI 7)]) ?_ rfl ?_;·simp[results,results118,go_sem,q0,q1,q2]
  .exact Zyp
end
