/- Read. -/
import Derived.Test.YtjikfacdcdiddaaGreatDoorJ01
set_option maxRecDepth 100000
set_option maxHeartbeats 20000000
namespace Go.Proofs.YtjikfacdcdiddaaGreatDoor
open Go Go.RowKit
def df(c:Int):Value:=if c=0 then .nilIface else .iface 34 (vI c)
def LHeap.read (H:LHeap) (n:Int) (name:ByteArray):LVal×Int:=
 match H.scope? n with
 |none=>(LVal.zero,7)
 | some s =>
   if s.object<0 then
    match(s.idx name).bind λk=>s.names[k]? with
    |none=>(LVal.zero,7)
    |some b=>if b.ready then(b.v,0)else(LVal.zero,6)
   else
    match H.get s.object name with
    |none=>(LVal.zero,7)
    |some v=>(v,0)
section
variable {ρ:Nat->Option Role}{w:World}{hb ho:Nat}{L:HL}{H:LHeap}
theorem WI{w w1:World}{k n:Int}{s:ByteArray}{T:TypeId}(g:Below (w.alloc (.cells #[vI k,vI n,.string s] T)).heap.size (w.alloc (.cells #[vI k,vI n,.string s] T)) w1) :
 vC w1 w.heap.size 0 (vI k)∧vC w1 w.heap.size 1 (vI n)∧vC w1 w.heap.size 2 (.string s)∧
 w1.frozen? ⟨w.heap.size,0,none⟩=false∧w1.frozen? ⟨w.heap.size,1,none⟩=false∧w1.frozen? ⟨w.heap.size,2,none⟩=false∧w.heap.size<w1.heap.size∧Below w.heap.size w w1:=
 ⟨Zx g 0 _ rfl,Zx g 1 _ rfl,Zx g 2 _ rfl,Wt g 0,Wt g 1,Wt g 2,Z5i g,UP g⟩
theorem Zor(h:HeapAt ρ w hb ho L H)(n:Int)(name:ByteArray) :
 Calls Tryz.prog 117 #[.pointer (some ⟨hb,ho,none⟩),vI n,.string name] w λe w'=>e=.returned (.tuple #[(H.read n name).1.agg,df (H.read n name).2])∧Below w.heap.size w w':=by
 have y:∀o,HeapAt ρ (w.alloc o) hb ho L H:=λo=>h.below ((Y2 _ _).alloc (Y0 _) _);have HC:=lh (Tg (y (.cells #[vI 0,vI 0,.string ⟨#[]⟩] 55)) n name);by_cases hq:H.has n name=true
 .rw[hq]at HC;obtain⟨s,hob,E⟩:∃s,H.scope? n=some s∧(if s.object<0 then(s.idx name).isSome else(H.get s.object name).isSome)=true:=by
   exact Ztc
  obtain⟨m,rfl,hm⟩:=LHeap.scope?_some hob;have dj:=getElem?_lt hm;rcases Z4 h.rowS with⟨dI,X⟩|⟨gs,cs,dI,aG,Y,pB⟩;·omega
  unfold maxLen at Y;have I:H.read m name=if s.object<0 then(match(s.idx name).bind λk=>s.names[k]? with|none=>(LVal.zero,7)|some b=>if b.ready then(b.v,0)else(LVal.zero,6))else(match H.get s.object name with|none=>(LVal.zero,7)|some v=>(v,0)):=by
   simp[LHeap.read,hob]
  refine RZ ?_;intro ap;rw[I];by_cases aV:s.object<0
  .rw[Y5 aV]at E ⊢;obtain⟨k,hk⟩:=Option.isSome_iff_exists.1 E;obtain⟨p,hp,_⟩:=LScope.idx_some hk;have ba:=getElem?_lt hp;obtain⟨Z,O⟩:=h.scp m s hm;rcases Z4 O with⟨hv,X⟩|⟨g,c,hv,h2,F,cY⟩;·omega
   unfold maxLen at F;have U:(s.idx name).bind (λk=>s.names[k]?)=some p:=by rw[hk];exact hp
   simp only[U];obtain⟨pn,⟨pk,pm,ps⟩,uN,uQ⟩:=p;refine Vy ?_;intro ae;have HF:=lh ap;have HR:=lh ae;have bB:=lh (λw1 (hh:HeapAt ρ w1 hb ho L H)=>WP hh m s hm name);rw[hk,hv]at bB;simp only[R',Value.ownBlock,Option.map_some]at bB;have HH:=lh (y (.cells #[vI 0,vI 0,.string ⟨#[]⟩] 55));clear h y hq hob E hm dI I ap hk hp Z O hv U ae;cases uQ
   all_goals
    simp only[if_true,Bool.false_eq_true,if_false];go_enter Tryz.func117,Tryz.ntmps117
    go_wp2_with fail
    refine SN ?_;intro w1 q0 q1 q2 f0 f1 f2 hs d0 d1 d2 eW HB;go_wp2_with fail
    refine Ve ?_;intro w2 au fE r0 r1 r2 r3;refine Te ?_;intro mq jw nS;refine Zvo ?_;intro C9 C' Da dZ aO;clear au fE q0 q1 q2 f0 f1 f2 d0 d1 d2;go_wp2
   .refine bodyPost_ret (v:=.tuple #[.agg #[vI 0,vI 0,.string ⟨#[]⟩],.iface 34 (vI 6)]) ?_ rfl ?_;·simp[results,Tryz.results117,go_sem,mq,jw,nS]
    .exact Zwr
   .refine bodyPost_ret (v:=.tuple #[.agg #[vI pk,vI pm,.string ps],.nilIface]) ?_ rfl ?_;·simp[results,Tryz.results117,go_sem,mq,jw,nS]
    .exact Zwr
  .rw[Y3 aV]at E ⊢;obtain⟨v,hv⟩:=Option.isSome_iff_exists.1 E;simp only[hv];have J:=lh (λw1 (hh:HeapAt ρ w1 hb ho L H)=>Zev hh s.object name);rw[hv]at J;obtain⟨vk,vn,vs⟩:=v;simp only[Option.getD_some,Option.isSome_some,LVal.agg]at J;have HF:=lh ap;have HH:=lh (y (.cells #[vI 0,vI 0,.string ⟨#[]⟩] 55));clear h y hq hob E hm dI I ap hv;go_enter Tryz.func117,Tryz.ntmps117
   go_wp2_with fail
   refine SN ?_;intro w1 q0 q1 q2 f0 f1 f2 hs d0 d1 d2 eW HB;go_wp2_with fail
   refine(J.o w1 eW.o).mono ?_;rintro e w2⟨rfl,au⟩;refine Te ?_;intro mq jw nS;refine Zvo ?_;intro C9 C' Da dZ aO;clear au q0 q1 q2 f0 f1 f2 d0 d1 d2;go_wp2;refine bodyPost_ret (v:=.tuple #[.agg #[vI vk,vI vn,.string vs],.nilIface]) ?_ rfl ?_;·simp[results,Tryz.results117,go_sem,mq,jw,nS,dZ]
   .have F:=((aO.o.setCell (p:=⟨w.heap.size,0,none⟩) (Y0 _) (vI vk)).setCell (p:=⟨w.heap.size,1,none⟩) (Y0 _) (vI vn)).setCell (p:=⟨w.heap.size,2,none⟩) (Y0 _) (.string vs);exact⟨rfl,F.alloc F.size _⟩
 .have u:H.has n name=false:=by simpa using hq
  rw [u] at HC;have hr:H.read n name=(LVal.zero,7):=by
   unfold LHeap.has at u;unfold LHeap.read;split at u;·rename_i hs;simp[hs]
   .rename_i s hs;simp only[hs];split at u
    .have :s.idx name=none:=by simpa using u
     rename_i aV;rw[Y5 aV,this];rfl
    .have :H.get s.object name=none:=by simpa using u
     rename_i aV;rw[Y3 aV,this]
  rw[hr];clear hq u h y hr;go_enter Tryz.func117,Tryz.ntmps117
  go_wp2_with fail
  refine HC.o.mono ?_;rintro e w1⟨rfl,hB⟩;obtain⟨q0,q1,q2,f0,f1,f2,hs,dx⟩:=WI hB;have HB:=lh dx;clear hB dx;go_wp2;refine bodyPost_ret (v:=.tuple #[.agg #[vI 0,vI 0,.string ⟨#[]⟩],.iface 34 (vI 7)]) ?_ rfl ?_;·simp[results,Tryz.results117,go_sem,q0,q1,q2]
  .exact Zu6
end
