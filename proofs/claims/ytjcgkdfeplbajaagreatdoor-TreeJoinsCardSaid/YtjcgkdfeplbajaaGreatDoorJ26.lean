/- errors.As at a target of type Errno, after the guide's worked text for -/
import Derived.Test.YtjcgkdfeplbajaaGreatDoorJ23
import Derived.Test.YtjcgkdfeplbajaaGreatDoorJ25
import Derived.RowKitTokens
import Derived.Lib.LaidTab
import Derived.LaidMore
import Derived.Stop.Joined
namespace Go.Proofs.YtjcgkdfeplbajaaGreatDoor
open Go.RowKit Go.Extern.Stop Go.Stop Go.Extern
set_option maxRecDepth 100000
set_option maxHeartbeats 20000000
theorem Tryz.valueOf27 (t:Addr) (w:World):(ReflectliteValue.unpack (.iface 51 (.pointer (some t)))).run Tryz.prog w
 = .ok (.agg #[.pointer (some ⟨9,51,none⟩),.pointer (some ⟨w.heap.size,0,none⟩),.int .u64 150]) (w.alloc (.cells #[.pointer (some t)] 51)):=by kernel_rfl
theorem Tryz.type27 (a : Addr) (w : World) : (ReflectliteValue.methodAny (ReflectliteValue.valueError "reflectlite.Value.Type" 0) (fun t _ _ _ => ReflectliteType.toType t) #[.agg #[.pointer (some ⟨9, 51, none⟩), .pointer (some a), .int .u64 150]]).run Tryz.prog w
 = .ok (.iface 102 (.agg #[.pointer (some ⟨9,51,none⟩)])) w:=by kernel_rfl
theorem Tryz.methodKind (h : Value) (w : World) : (Go.method 349 102 (.agg #[h]) "Kind").run Tryz.prog w = .ok (134, h) w := by kernel_rfl
theorem Tryz.kind27 (w:World):((ReflectliteType.abiMethod fun t=>(fun a:Nat=>Value.int IntKind.u8 (a:Int)) <$> Rtype.kind t) #[.pointer (some ⟨9,51,none⟩)]).run Tryz.prog w=.ok (.int .u8 22) w:=by kernel_rfl
theorem Tryz.kind25 (w:World):((ReflectliteType.abiMethod fun t=>(fun a:Nat=>Value.int IntKind.u8 (a:Int)) <$> Rtype.kind t) #[.pointer (some ⟨9,30,none⟩)]).run Tryz.prog w=.ok (.int .u8 2) w:=by kernel_rfl
theorem rlm (z:Sem Value) (f:TypeId→Addr→Nat→Nat→Sem Value) (v:Value) :
 ReflectliteValue.method z f #[v]=(do match ← ReflectliteValue.parts v with | none=>z | some (t,a,fl)=>f t a fl (fl % 32)):=rfl
theorem Tryz.parts27 (a:Addr) (w:World):(ReflectliteValue.parts (.agg #[.pointer (some ⟨9,51,none⟩),.pointer (some a),.int .u64 150])).run Tryz.prog w=.ok (some (51,a,150)) w:=by kernel_rfl
theorem Tryz.isNil27 (a p:Addr) (W:World) (ha:W.cell? a=some (.pointer (some p))) :
 (ReflectliteValue.method (ReflectliteValue.valueError "reflectlite.Value.IsNil" 0) ReflectliteValue.isNil #[.agg #[.pointer (some ⟨9, 51, none⟩), .pointer (some a), .int .u64 150]]).run Tryz.prog W = .ok (.bool false) W := by
 rw [rlm];simp only [Sem.run_bind,Tryz.parts27,Result.andThen];simp [ReflectliteValue.isNil,loadVar,isAgg,underlying,Tryz.underlying51,ha,Result.andThen]
theorem Tryz.methodElem (h : Value) (w : World) : (Go.method 349 102 (.agg #[h]) "Elem").run Tryz.prog w = .ok (147, .agg #[h]) w := by kernel_rfl
theorem Tryz.methodImplements (h : Value) (w : World) : (Go.method 349 102 (.agg #[h]) "Implements").run Tryz.prog w = .ok (148, .agg #[h]) w := by kernel_rfl
theorem Tryz.methodAssignableTo (h : Value) (w : World) : (Go.method 349 102 (.agg #[h]) "AssignableTo").run Tryz.prog w = .ok (145, .agg #[h]) w := by kernel_rfl
theorem Tryz.elem27 (w:World):(ReflectliteType.method ReflectliteType.elem #[.agg #[.pointer (some ⟨9,51,none⟩)]]).run Tryz.prog w=.ok (.iface 102 (.agg #[.pointer (some ⟨9,30,none⟩)])) w:=by kernel_rfl
theorem Tryz.implements25 (w : World) : (ReflectliteType.relation "Implements" ReflectliteType.implements_ #[.agg #[.pointer (some ⟨9, 30, none⟩)], .iface 102 (.agg #[.pointer (some ⟨9, 27, none⟩)])]).run Tryz.prog w = .ok (.bool true) w := by kernel_rfl
theorem Tryz.typeOf25 (v:Value) (w:World):(ReflectliteType.typeOf #[.iface 30 v]).run Tryz.prog w=.ok (.iface 102 (.agg #[.pointer (some ⟨9,30,none⟩)])) w:=by kernel_rfl
theorem Tryz.assignable25 (w : World) : (ReflectliteType.relation "AssignableTo" ReflectliteType.assignableTo #[.agg #[.pointer (some ⟨9, 30, none⟩)], .iface 102 (.agg #[.pointer (some ⟨9, 30, none⟩)])]).run Tryz.prog w = .ok (.bool true) w := by kernel_rfl
theorem Tryz.valueOf25 (e:Int) (w:World):(ReflectliteValue.unpack (.iface 30 (.int .i64 e))).run Tryz.prog w
 = .ok (.agg #[.pointer (some ⟨9,30,none⟩),.pointer (some ⟨w.heap.size,0,none⟩),.int .u64 130]) (w.alloc (.cells #[.int .i64 e] 30)):=by kernel_rfl
theorem Tryz.elemOf27 (w:World):(Rtype.elem? 51).run Tryz.prog w=.ok (some 30) w:=by kernel_rfl
theorem Tryz.mk25 (p:Addr) (w:World):(ReflectliteValue.mk 30 p ReflectliteValue.flagAddr).run Tryz.prog w=.ok (.agg #[.pointer (some ⟨9,30,none⟩),.pointer (some p),.int .u64 386]) w:=by kernel_rfl
theorem Tryz.elemV27 (a p:Addr) (W:World) (ha:W.cell? a=some (.pointer (some p))) :
 (ReflectliteValue.method (ReflectliteValue.valueError "reflectlite.Value.Elem" 0) ReflectliteValue.elem #[.agg #[.pointer (some ⟨9, 51, none⟩), .pointer (some a), .int .u64 150]]).run Tryz.prog W
  = .ok (.agg #[.pointer (some ⟨9,30,none⟩),.pointer (some p),.int .u64 386]) W:=by
 rw [rlm];simp only [Sem.run_bind,Tryz.parts27,Result.andThen];simp [ReflectliteValue.elem,loadVar,isAgg,underlying,Tryz.underlying51,ha,Result.andThen,Tryz.elemOf27,Tryz.mk25]
theorem rls (v x:Value):ReflectliteValue.set #[v,x]=(do
 let (some (dst,a,fl),some (src,b,_)):=(← ReflectliteValue.parts v,← ReflectliteValue.parts x)
  | unsupported (.noEntry "extern/(internal/reflectlite.Value).Set.zeroValue")
 if fl / ReflectliteValue.flagAddr % 2 == 0 then unsupported (.noEntry "extern/(internal/reflectlite.Value).Set.unaddressable")
 let val ← loadVar src b
 if ← Rtype.directlyAssignable dst src then storeVar dst a val
 else if ← Rtype.implements dst src then
  if (← Rtype.kind src) == 20 then
   match val with
   | .nilIface => unsupported (.noEntry "extern/reflectlite: a nil value of one interface type handed on as a value of another")
   | _=>storeVar dst a val
  else storeVar dst a (.iface src val)
 else panicString ("reflectlite.Set: value of type " ++ (← Rtype.spelt src) ++ " is not assignable to type " ++ (← Rtype.spelt dst))
 pure (.tuple #[])):=rfl
theorem Tryz.parts25a (a:Addr) (w:World):(ReflectliteValue.parts (.agg #[.pointer (some ⟨9,30,none⟩),.pointer (some a),.int .u64 386])).run Tryz.prog w=.ok (some (30,a,386)) w:=by kernel_rfl
theorem Tryz.parts25 (a:Addr) (w:World):(ReflectliteValue.parts (.agg #[.pointer (some ⟨9,30,none⟩),.pointer (some a),.int .u64 130])).run Tryz.prog w=.ok (some (30,a,130)) w:=by kernel_rfl
theorem Tryz.direct25 (w:World):(Rtype.directlyAssignable 30 30).run Tryz.prog w=.ok true w:=by kernel_rfl
theorem Tryz.set25 (ta b:Addr) (e:Int) (old:Value) (W:World) (hb:W.cell? b=some (.int .i64 e)) (ht:W.cell? ta=some old) (hf:W.frozen? ta=false) :
 (ReflectliteValue.set #[.agg #[.pointer (some ⟨9, 30, none⟩), .pointer (some ta), .int .u64 386], .agg #[.pointer (some ⟨9, 30, none⟩), .pointer (some b), .int .u64 130]]).run Tryz.prog W
  = .ok (.tuple #[]) (W.setCell ta (.int .i64 e)):=by
 rw [rls];simp only [Sem.run_bind,Tryz.parts25a,Tryz.parts25,Result.andThen];simp [ReflectliteValue.flagAddr,loadVar,isAgg,underlying,Tryz.underlying30,hb,Result.andThen,Tryz.direct25,storeVar,Value.cells,storeCells,Addr.add];rw [run_store Tryz.prog W ta _ _ (by rfl)];simp [ht,hf]
theorem Zfi (e:Int) (t:Addr) (old:Value) (w:World) (hg:w.cell? ⟨0,0,none⟩=some (.iface 102 (.agg #[.pointer (some ⟨9,27,none⟩)]))) (ht0:w.cell? t=some old) (hf0:w.frozen? t=false) :
 Calls Tryz.prog 15 #[.iface 30 (.int .i64 e),.iface 51 (.pointer (some t))] w fun ev w'=>ev=.returned (.bool true)∧w'=((((w.alloc (.cells #[.pointer (some t)] 51)).alloc (.cells #[.pointer (some ⟨9,51,none⟩),.pointer (some ⟨w.heap.size,0,none⟩),.int .u64 150] 80)).alloc (.cells #[.pointer (some ⟨9,51,none⟩),.pointer (some ⟨w.heap.size,0,none⟩),.int .u64 150] 80)).alloc (.cells #[.int .i64 e] 30)).setCell t (.int .i64 e):=by
 have h6 := @run_callFunc_extern Tryz.prog 32 _ (fun args => ReflectliteValue.unpack (args.getD 0 (.tuple #[]))) Tryz.func32 (by kernel_rfl) (by kernel_rfl) (by kernel_rfl) (by kernel_rfl);have h7 := @run_callFunc_extern Tryz.prog 33 _ (ReflectliteValue.methodAny (ReflectliteValue.valueError "reflectlite.Value.Type" 0) (fun t _ _ _ => ReflectliteType.toType t)) Tryz.func33 (by kernel_rfl) (by kernel_rfl) (by kernel_rfl) (by kernel_rfl)
 have h8 := @run_callFunc_extern Tryz.prog 34 _ (ReflectliteValue.method (ReflectliteValue.valueError "reflectlite.Value.IsNil" 0) ReflectliteValue.isNil) Tryz.func34 (by kernel_rfl) (by kernel_rfl) (by kernel_rfl) (by kernel_rfl)
 have h27 := @run_callFunc_extern Tryz.prog 134 _ (ReflectliteType.abiMethod fun t => do pure (.int .u8 (← Rtype.kind t))) Tryz.func134 (by kernel_rfl) (by kernel_rfl) (by kernel_rfl) (by kernel_rfl);have h37 := @run_callFunc_extern Tryz.prog 147 _ (ReflectliteType.method ReflectliteType.elem) Tryz.func147 (by kernel_rfl) (by kernel_rfl) (by kernel_rfl) (by kernel_rfl);have h38 := @run_callFunc_extern Tryz.prog 148 _ (ReflectliteType.relation "Implements" ReflectliteType.implements_) Tryz.func148 (by kernel_rfl) (by kernel_rfl) (by kernel_rfl) (by kernel_rfl)
 have h10 := @run_callFunc_extern Tryz.prog 54 _ ReflectliteType.typeOf Tryz.func54 (by kernel_rfl) (by kernel_rfl) (by kernel_rfl) (by kernel_rfl);have h35 := @run_callFunc_extern Tryz.prog 145 _ (ReflectliteType.relation "AssignableTo" ReflectliteType.assignableTo) Tryz.func145 (by kernel_rfl) (by kernel_rfl) (by kernel_rfl) (by kernel_rfl)
 have h11 := @run_callFunc_extern Tryz.prog 55 _ (ReflectliteValue.method (ReflectliteValue.valueError "reflectlite.Value.Elem" 0) ReflectliteValue.elem) Tryz.func55 (by kernel_rfl) (by kernel_rfl) (by kernel_rfl) (by kernel_rfl)
 have h12:=@run_callFunc_extern Tryz.prog 56 _ ReflectliteValue.set Tryz.func56 (by kernel_rfl) (by kernel_rfl) (by kernel_rfl) (by kernel_rfl);have tO:=Tryz.typeOf25;have mA:=Tryz.methodAssignableTo;have a25:=Tryz.assignable25;have v25:=Tryz.valueOf25;have f6:=Tryz.valueOf27;have f7:=Tryz.type27;have mK:=Tryz.methodKind;have mE:=Tryz.methodElem;have mI:=Tryz.methodImplements;have k27:=Tryz.kind27;have k25:=Tryz.kind25;have e27:=Tryz.elem27;have i25:=Tryz.implements25
 have n8:=Tryz.isNil27 ⟨w.heap.size,0,none⟩ t ((w.alloc (.cells #[.pointer (some t)] 51)).alloc (.cells #[.pointer (some ⟨9,51,none⟩),.pointer (some ⟨w.heap.size,0,none⟩),.int .u64 150] 80)) (by simp);have hlt:0 < w.heap.size:=by
  rcases Nat.lt_or_ge 0 w.heap.size with h | h;·exact h
  ·simp [World.cell?,Array.getElem?_eq_none h] at hg
 have hg2:((w.alloc (.cells #[.pointer (some t)] 51)).alloc (.cells #[.pointer (some ⟨9,51,none⟩),.pointer (some ⟨w.heap.size,0,none⟩),.int .u64 150] 80)).cell? ⟨0,0,none⟩=some (.iface 102 (.agg #[.pointer (some ⟨9,27,none⟩)])):=by
  rw [World.cell?_alloc_lt _ _ ⟨0,0,none⟩ (by simp <;> omega),World.cell?_alloc_lt _ _ ⟨0,0,none⟩ hlt]; exact hg
 have htl:t.block < w.heap.size:=by
  rcases Nat.lt_or_ge t.block w.heap.size with h | h;·exact h
  ·simp [World.cell?,Array.getElem?_eq_none h] at ht0
 have el:=Tryz.elemV27 ⟨w.heap.size,0,none⟩ t (((w.alloc (.cells #[.pointer (some t)] 51)).alloc (.cells #[.pointer (some ⟨9,51,none⟩),.pointer (some ⟨w.heap.size,0,none⟩),.int .u64 150] 80)).alloc (.cells #[.pointer (some ⟨9,51,none⟩),.pointer (some ⟨w.heap.size,0,none⟩),.int .u64 150] 80)) (by rw [World.cell?_alloc_lt _ _ ⟨w.heap.size,0,none⟩ (by simp <;> omega)]; simp)
 have st:=Tryz.set25 t ⟨w.heap.size + 1 + 1 + 1,0,none⟩ e old ((((w.alloc (.cells #[.pointer (some t)] 51)).alloc (.cells #[.pointer (some ⟨9,51,none⟩),.pointer (some ⟨w.heap.size,0,none⟩),.int .u64 150] 80)).alloc (.cells #[.pointer (some ⟨9,51,none⟩),.pointer (some ⟨w.heap.size,0,none⟩),.int .u64 150] 80)).alloc (.cells #[.int .i64 e] 30))
  (by rw [World.cell?_alloc_at _ _ _ _ (by simp)]; rfl)
  (by rw [World.cell?_alloc_lt _ _ t (by simp <;> omega),World.cell?_alloc_lt _ _ t (by simp <;> omega),World.cell?_alloc_lt _ _ t (by simp <;> omega),World.cell?_alloc_lt _ _ t htl]; exact ht0)
  (by rw [World.frozen?_alloc_old _ _ t (by simp <;> omega),World.frozen?_alloc_old _ _ t (by simp <;> omega),World.frozen?_alloc_old _ _ t (by simp <;> omega),World.frozen?_alloc_old _ _ t (Nat.ne_of_lt htl)]; exact hf0)
 go_enter Tryz.func15,Tryz.ntmps15
 go_wp2;refine wp_loop_rounds 1 ?_;rw [rounds_succ];go_wp2;go_ret;exact ⟨rfl,rfl⟩
end Go.Proofs.YtjcgkdfeplbajaaGreatDoor
namespace Go.Proofs.YtjcgkdfeplbajaaGreatDoor
open Go Go.RowKit
set_option maxRecDepth 100000
set_option maxHeartbeats 20000000
def Z36 (w:World):Prop:=w.cell? ⟨0,0,none⟩=some (.iface 102 (.agg #[.pointer (some ⟨9,27,none⟩)]))
theorem Z36.lt {w:World} (h:Z36 w):0 < w.heap.size:=by
 rcases Nat.lt_or_ge 0 w.heap.size with h' | h';·exact h'
 ·simp [Z36,World.cell?,Array.getElem?_eq_none h'] at h
theorem Z36.below {w w':World} (h:Z36 w) (hB:Below w.heap.size w w'):Z36 w':=(hB.cell (p:=⟨0,0,none⟩) h.lt).trans h
theorem Zd3 (w:World) (c:Int) (hg:Z36 w) :
 Calls Tryz.prog 7 #[errV c] w fun e w'=>e=.returned (.int .i64 c)∧Below w.heap.size w w':=by
 by_cases hc:c=0
 ·subst hc;simp only [errV, if_true];go_enter Tryz.func7, Tryz.ntmps7
  go_wp2;go_ret;exact ⟨rfl,Y2 _ _⟩
 ·simp only [errV, if_neg hc];have hlt := hg.lt;have hit := lh (Zfi c ⟨w.heap.size, 0, none⟩ (.int .i64 0) (w.alloc (.cells #[.int .i64 0] 30)) ((Zu (p := ⟨0, 0, none⟩) hlt).trans hg) (World.cell?_alloc_new _ _ _ 0) (World.frozen?_alloc_new _ _ _ _));clear hg;go_enter Tryz.func7, Tryz.ntmps7
  go_wp2_with fail
  refine hit.out.mono ?_;rintro e w1 ⟨rfl,hw1⟩;have hB:Below w.heap.size w w1:=by
   rw [hw1];refine Below.setCell ?_ (by simp) _;repeat (refine Below.alloc ?_ (by simp; try omega) _)
   exact Y2 _ _
  have hx:w1.cell? ⟨w.heap.size,0,none⟩=some (.int .i64 c):=by
   rw [hw1];rw [World.cell?_setCell_same'];rw [Zu (by simp <;> omega),Zu (by simp <;> omega),Zu (by simp <;> omega),Zu (by simp)];rw [World.cell?_alloc_new];rfl
  have HB:=lh hB;clear hB hw1 hit;go_wp2;go_ret;exact ⟨rfl,HB.out⟩
end Go.Proofs.YtjcgkdfeplbajaaGreatDoor
namespace Go.Proofs.YtjcgkdfeplbajaaGreatDoor
open Go Go.RowKit Go.Extern.Stop Go.Stop Go.Extern
set_option maxRecDepth 100000
set_option maxHeartbeats 20000000
set_option linter.unusedVariables false
end Go.Proofs.YtjcgkdfeplbajaaGreatDoor
namespace Go.Proofs.YtjcgkdfeplbajaaGreatDoor
open Go Go.RowKit
set_option maxRecDepth 100000
set_option maxHeartbeats 20000000
set_option linter.unusedVariables false
theorem Zeg (w:World) (a b:ByteArray) (oka okb:Bool) (hk:(oka && okb)=false)
 (HRA:Hid (Calls Tryz.prog 4 #[.string a] w fun e w'=>(∃ p,e=.returned (.tuple #[p,.bool oka]))∧Below w.heap.size w w'))
 (HRB:Hid (∀ w1,Below w.heap.size w w1→Calls Tryz.prog 4 #[.string b] w1 fun e w'=>(∃ p,e=.returned (.tuple #[p,.bool okb]))∧Below w1.heap.size w1 w'))
 (HTO:Hid (∀ w1,Below w.heap.size w w1→Calls Tryz.prog 5 #[] w1 fun e w'=>e=.returned (.bool true)∧Below w1.heap.size w1 w')) :
 Calls Tryz.prog 3 #[.string a,.string b] w fun e w'=>e=.returned (.bool true)∧Below w.heap.size w w':=by
 by_cases hc:2500 < wrap64 ((a.size:Int) + (b.size:Int))
 ·have hd : decide (2500 < wrap64 ((a.size : Int) + (b.size : Int))) = true := by simpa using hc
  go_enter Tryz.func3,Tryz.ntmps3
  go_wp2;go_ret;exact ⟨rfl,Y2 _ _⟩
 have hd:decide (2500 < wrap64 ((a.size:Int) + (b.size:Int)))=false:=by simpa using hc
 cases oka <;> cases okb
 rotate_right
 ·exact absurd hk (by decide)
 all_goals focus
  clear hk;go_enter Tryz.func3,Tryz.ntmps3
  go_wp2_with fail
  refine HRA.out.mono ?_;rintro e w1 ⟨⟨p,rfl⟩,hb⟩;have HB:=lh hb;clear hb;go_wp2_with fail
  refine (HRB.out w1 HB.out).mono ?_;rintro e w2 ⟨⟨q,rfl⟩,hb⟩;have HB2:=lh (HB.out.trans (hb.mono HB.out.size));clear hb;go_wp2_with fail
  refine (HTO.out w2 HB2.out).mono ?_;rintro e w3 ⟨rfl,hb⟩;have HB3:=lh (HB2.out.trans (hb.mono HB2.out.size));clear hb;go_wp2_with fail
  refine (HTO.out w3 HB3.out).mono ?_;rintro e w4 ⟨rfl,hb⟩;have HB4:=lh (HB3.out.trans (hb.mono HB3.out.size));clear hb;go_wp2;go_ret;exact ⟨rfl,HB4.out⟩
def Z9j (w:World) (b:Nat) (L:List ATree):Prop:=∃ p cp,w.cell? ⟨b,3,none⟩=some (.slice p L.length cp)∧L.length≤cp∧cp≤maxLen∧∀ (i:Nat) (x:ATree),L[i]?=some x→∃ g,p=some ⟨g,0,none⟩∧w.cell? ⟨g,i,none⟩=some x.ptr
theorem Zax {w:World} {Bt:Nat} {a:ATree} (hT:TreeAt w Bt a):Z9j w a.b a.kids:=by
 obtain ⟨p,cp,hv,hge,hmx⟩:=hT.vOf;have c3:=hT.c3;rw [hv] at c3;refine ⟨p,cp,c3,hge,hmx,fun i x hx=>?_⟩;obtain ⟨g,cp',h1,h2,h3,h4,h5⟩:=Z0r hT (by intro e; rw [e] at hx; cases hx);have h6:=c3.symm.trans h1;simp only [Option.some.injEq,Value.slice.injEq] at h6;exact ⟨g,h6.1,h5 i x hx⟩
theorem Z9j.below {w w':World} {b:Nat} {L:List ATree} (h:Z9j w b L) (hB:Below w.heap.size w w'):Z9j w' b L:=by
 obtain ⟨p,cp,h1,h2,h3,h4⟩:=h;exact ⟨p,cp,cell_below hB h1,h2,h3,fun i x hx=>by obtain ⟨g,h5,h6⟩:=h4 i x hx; exact ⟨g,h5,cell_below hB h6⟩⟩
theorem Z9g {l:List Tree} {t:Tree} (h:t∈l):t.many≤Zn l:=by
 induction l with
 | nil=>cases h
 | cons x l ih =>
   simp only [Zn];rcases List.mem_cons.1 h with rfl | h;·omega
   ·have:=ih h; omega
theorem Z5u (a:ATree):a.tree.kids=Zg a.kids:=by cases a; rfl
theorem Z5c {l:List ATree} {k:Nat} {x:ATree} (h:l[k]?=some x):(Zg l)[k]?=some x.tree:=by rw [Z1i,Yg,h]; rfl
theorem Zfp (w:World) (a b T:ByteArray) (tx ty:Tree) (hsa:a.size≤3000) (hsb:b.size≤3000) (hT:T=a ++ ⟨#[10]⟩ ++ b) (hmx:tx.many≤1500) (hmy:ty.many≤1500) (hE:Z36 w)
 (HRA:Hid (Calls Tryz.prog 4 #[.string a] w fun e w1=>∃ x:ATree,e=.returned (.tuple #[.pointer (some ⟨x.b,0,none⟩),.bool true])∧Below w.heap.size w w1∧TreeAt w1 w.heap.size x∧x.tree=tx))
 (HRB:Hid (∀ w1,Below w.heap.size w w1→Calls Tryz.prog 4 #[.string b] w1 fun e w2=>∃ y:ATree,e=.returned (.tuple #[.pointer (some ⟨y.b,0,none⟩),.bool true])∧Below w1.heap.size w1 w2∧TreeAt w2 w1.heap.size y∧y.tree=ty))
 (HTO:Hid (∀ w1,Below w.heap.size w w1→Calls Tryz.prog 5 #[] w1 fun e w'=>e=.returned (.bool true)∧Below w1.heap.size w1 w'))
 (HP : Hid (∀ w1, Below w.heap.size w w1 → Calls Tryz.prog 6 #[.string T] w1 fun e w2 => Below w1.heap.size w1 w2 ∧
  (e=.returned (.tuple #[.pointer none,.iface 30 (.int .i64 4)])∨∃ z:ATree,e=.returned (.tuple #[.pointer (some ⟨z.b,0,none⟩),.nilIface])∧TreeAt w2 w1.heap.size z∧z.tree=Zdd tx ty))) :
 Calls Tryz.prog 3 #[.string a,.string b] w fun e w'=>e=.returned (.bool true)∧Below w.heap.size w w':=by
 have hwr:IntKind.i64.wrap ((a.size:Int) + (b.size:Int))=(a.size:Int) + (b.size:Int):=IntWalk.i64_in _ (by omega);by_cases hc:2500 < a.size + b.size
 ·have hd : decide (2500 < (a.size : Int) + (b.size : Int)) = true := by simp; omega
  have hd2:2500 < (a.size:Int) + (b.size:Int):=by omega
  clear hc;go_enter Tryz.func3,Tryz.ntmps3
  go_wp2;go_ret;exact ⟨rfl,Y2 _ _⟩
 have hd:decide (2500 < (a.size:Int) + (b.size:Int))=false:=by simp; omega
 have hd2:¬ 2500 < (a.size:Int) + (b.size:Int):=by omega
 have q1:¬ (a.size + 1 > 9223372036854775807):=by omega
 have q2:¬ (a.size + 1 + b.size > 9223372036854775807):=by omega
 have HT:=lh hT;have HM:=lh (And.intro hmx hmy);have HE:=lh hE;clear hc hT hmx hmy hE hsa hsb;go_enter Tryz.func3,Tryz.ntmps3
 go_wp2_with fail
 refine HRA.out.mono ?_;rintro e w1 ⟨x,rfl,hb,htx,ex⟩;have HB:=lh hb;have HX:=lh htx;have EX:=lh ex;clear hb htx ex HRA;go_wp2_with fail
 refine (HRB.out w1 HB.out).mono ?_;rintro e w2 ⟨y,rfl,hb,hty,ey⟩;have HB2:=lh (HB.out.trans (hb.mono HB.out.size));have HX2:=lh (HX.out.bel hb);have HY2:=lh hty;have EY:=lh ey;clear hb hty ey HRB HB HX;go_wp2_with fail
 refine (HTO.out w2 HB2.out).mono ?_;rintro e w3 ⟨rfl,hb⟩;have HB3:=lh (HB2.out.trans (hb.mono HB2.out.size));have HX3:=lh (HX2.out.bel hb);have HY3:=lh (HY2.out.bel hb);clear hb HTO HB2 HX2 HY2;go_wp2_with fail
 rw [← HT.out];refine (HP.out w3 HB3.out).mono ?_;rintro e w4 ⟨hb,h⟩;have HB4:=lh (HB3.out.trans (hb.mono HB3.out.size));have HX4:=lh (HX3.out.bel hb);have HY4:=lh (HY3.out.bel hb);clear hb HP HB3 HX3 HY3;rcases h with rfl | ⟨z,rfl,htz,ez⟩
 ·have htl := Zd3 w4 4 (HE.out.below HB4.out);rw [show errV 4 = .iface 30 (.int .i64 4) by rfl] at htl;have HTL := lh htl;clear htl;go_wp2_with fail
  refine HTL.out.mono ?_;rintro e w6 ⟨rfl,hb6⟩;have HB6:=lh (HB4.out.trans (hb6.mono HB4.out.size));clear hb6 HTL;go_wp2;go_ret;exact ⟨rfl,HB6.out⟩
 have hkx:Zg x.kids=tx.kids:=by rw [← EX.out,Z5u]
 have hky:Zg y.kids=ty.kids:=by rw [← EY.out,Z5u]
 have hkz:Zg z.kids=Zg x.kids ++ Zg y.kids:=by rw [hkx,hky,← Z5u,ez]; rfl
 have hmx:Zn (Zg x.kids)≤1500:=by
  have:=HM.out.1;rw [← EX.out] at this;cases x;simp only [ATree.tree,Tree.many,ATree.kids] at this ⊢;omega
 have hmy:Zn (Zg y.kids)≤1500:=by
  have:=HM.out.2;rw [← EY.out] at this;cases y;simp only [ATree.tree,Tree.many,ATree.kids] at this ⊢;omega
 obtain ⟨n,hn⟩:=zX x.kids.length
 obtain ⟨m,hm⟩:=zX y.kids.length
 obtain ⟨q,hq⟩:=zX z.kids.length
 have hqn:q=n + m:=by
  have:=congrArg List.length hkz;rw [Yi,Z13,Z13,Z13] at this;omega
 have hn15:n≤1500:=by have:=Z2f (Zg x.kids); rw [Z13] at this; omega
 have hm15:m≤1500:=by have:=Z2f (Zg y.kids); rw [Z13] at this; omega
 have HSX:Hid (∀ (k:Nat) (u v:ATree),k < n→z.kids[k]?=some u→x.kids[k]?=some v→u.tree=v.tree∧u.many≤100000):=lh fun k u v hk hu hv=>by
  have h1:=Z5c hu;have h2:=Z5c hv;rw [hkz,List.getElem?_append_left (by rw [Z13,← hn]; exact hk),h2] at h1;have h3:v.tree=u.tree:=Yc h1;have h4:=Z9g (Yd h2);rw [h3,Z40] at h4;exact ⟨h3.symm,by omega⟩
 have HSY:Hid (∀ (k j:Nat) (u v:ATree),k=n + j→z.kids[k]?=some u→y.kids[j]?=some v→u.tree=v.tree∧u.many≤100000):=lh fun k j u v hk hu hv=>by
  have h1:=Z5c hu;have h2:=Z5c hv;rw [hkz,List.getElem?_append_right (by rw [Z13,← hn]; omega),Z13,← hn,hk,Nat.add_sub_cancel_left,h2] at h1;have h3:v.tree=u.tree:=Yc h1;have h4:=Z9g (Yd h2);rw [h3,Z40] at h4;exact ⟨h3.symm,by omega⟩
 have HKX:=lh (Zax HX4.out);have HKY:=lh (Zax HY4.out);have HKZ:=lh (Zax htz);have HZ4:=lh htz;obtain ⟨px,cx,x3,hgx,hcx,hix⟩:=HKX.out;obtain ⟨py,cy,y3,hgy,hcy,hiy⟩:=HKY.out;obtain ⟨pz,cz,z3,hgz,hcz,hiz⟩:=HKZ.out;rw [← hn] at x3 hgx;rw [← hm] at y3 hgy;rw [← hq] at z3 hgz;unfold maxLen at hcx hcy hcz;have HIX:=lh hix;have HIY:=lh hiy;have HIZ:=lh hiz;have hadd:IntKind.i64.wrap ((n:Int) + (m:Int))=(q:Int):=by rw [hqn]; rw [IntWalk.i64_in _ (by omega)]; omega
 have hqq:((q:Int) != (q:Int))=false:=by simp
 have HN:=lh hn;have HMM:=lh hm;have HQ:=lh hq;have HQN:=lh hqn;clear htz hix hiy hiz hkx hky hkz hmx hmy hn hm hq hqn ez;rcases Nat.eq_zero_or_pos n with hn0 | hn0;case' inl=>
  have hz1:decide ((0:Int) < (n:Int))=false:=by simp; omega
  have hz2:¬ (0:Int) < (n:Int):=by omega
  have hz3:¬ 0 < n:=by omega
  have HN0:=lh hn0;clear hn0;go_wp2_with fail
  refine Z4 [(true,0),(true,1),(true,2),(true,3),(true,4),(true,5),(true,6),(true,7),(true,8),(true,9),(true,10),(true,11),(true,12),(true,13),(true,14),(true,15),(true,16)] [17,18,19,20,21,22,23] (fun W=>W.cell? ⟨x.b,3,none⟩=some (.slice px n cx)) (by kernel_rfl) (by kernel_rfl) (fun _ _ d _ _ h=>by cases d <;> exact h) x3 (fun hS0=>?_);simp only [Zj,zD,zE,zF,zG,zH,zI]
  iterate 17
   first
    | (refine Z7 ?_ (by rfl) (fun w' hS'=>?_) ?_; rotate_left; (have s0:=hS'; go_simp; first | done | with_reducible rfl); simp only [Act.put,zA,zB,zC])
    | (refine Z6 (by rfl) ?_; simp only [Act.put,zA,zB,zC])
  refine Zb ?_;go_wp2_with fail
  clear hz1 hz2 hz3
 case' inr=>
  obtain ⟨j,hj⟩:∃ j,j + 1=n:=⟨n - 1,by omega⟩
  obtain ⟨u,hu⟩:∃ u,x.kids[j]?=some u:=⟨_,Y6 (by rw [← HN.out]; omega)⟩
  obtain ⟨gx,hpx,xu⟩:=HIX.out j u hu;subst hpx;have hTu:=HX4.out.kid (Yd hu);have u0:=hTu.c0;unfold ATree.ptr at xu;obtain ⟨kd,hkd⟩:=zX u.kind
  rw [← hkd] at u0;have hsub:(n:Int) - 1=(j:Int):=by omega
  have hz1:decide ((0:Int) < (n:Int))=true:=by simp; omega
  have hz2:(0:Int) < (n:Int):=by omega
  have hz3:0 < n:=by omega
  have hz4:decide (0 < n)=true:=by simp; omega
  have hjn:j < n:=by omega
  have hjI:(j:Int) < (n:Int):=by omega
  have hwj:IntKind.i64.wrap (j:Int)=(j:Int):=IntWalk.i64_in _ (by omega);have HJ:=lh hj;clear hj hn0 hu hTu hkd;by_cases h7:kd=7;case' pos=>
   have e7:(kd == 7)=true:=by simp [h7]
   clear h7;go_wp2_with fail
   refine Z4 [(true,0),(true,1),(true,2),(true,3),(true,4),(true,5),(true,6),(true,7),(true,8),(true,9),(true,10),(true,11),(true,12),(true,13),(true,14),(true,15),(true,16)] [17,18,19,20,21,22,23] (fun W=>W.cell? ⟨x.b,3,none⟩=some (.slice (some ⟨gx,0,none⟩) n cx)∧W.cell? ⟨gx,j,none⟩=some (.pointer (some ⟨u.b,0,none⟩))∧W.cell? ⟨u.b,0,none⟩=some (.int .i64 kd)) (by kernel_rfl) (by kernel_rfl) (fun _ _ d _ _ h=>by cases d <;> exact h) ⟨x3,xu,u0⟩ (fun hS0=>?_)
   simp only [Zj,zD,zE,zF,zG,zH,zI]
   iterate 17
    first
     | (refine Z7 ?_ (by rfl) (fun w' hS'=>?_) ?_; rotate_left; (obtain ⟨s0,s1,s2⟩:=hS'; go_simp; first | done | with_reducible rfl); simp only [Act.put,zA,zB,zC])
     | (refine Z6 (by rfl) ?_; simp only [Act.put,zA,zB,zC])
   refine Zb ?_;go_wp2;go_ret;exact ⟨rfl,HB4.out.drew⟩
  have e7:(kd == 7)=false:=by simp [h7]
  clear h7;go_wp2_with fail
  refine Z4 [(true,0),(true,1),(true,2),(true,3),(true,4),(true,5),(true,6),(true,7),(true,8),(true,9),(true,10),(true,11),(true,12),(true,13),(true,14),(true,15),(true,16)] [17,18,19,20,21,22,23] (fun W=>W.cell? ⟨x.b,3,none⟩=some (.slice (some ⟨gx,0,none⟩) n cx)∧W.cell? ⟨gx,j,none⟩=some (.pointer (some ⟨u.b,0,none⟩))∧W.cell? ⟨u.b,0,none⟩=some (.int .i64 kd)) (by kernel_rfl) (by kernel_rfl) (fun _ _ d _ _ h=>by cases d <;> exact h) ⟨x3,xu,u0⟩ (fun hS0=>?_)
  simp only [Zj,zD,zE,zF,zG,zH,zI]
  iterate 17
   first
    | (refine Z7 ?_ (by rfl) (fun w' hS'=>?_) ?_; rotate_left; (obtain ⟨s0,s1,s2⟩:=hS'; go_simp; first | done | with_reducible rfl); simp only [Act.put,zA,zB,zC])
    | (refine Z6 (by rfl) ?_; simp only [Act.put,zA,zB,zC])
  refine Zb ?_;go_wp2_with fail
  clear hz1 hz2 hz3 hz4 hjn hjI hwj hsub e7 xu u0
 all_goals focus
  clear x3 hgx hcx;obtain ⟨px,cx,x3,hgx,hcx,hix⟩:=HKX.out;rw [← HN.out] at x3 hgx;have HIX:=lh hix;clear hix;go_wp2_with fail
  refine Z4 [(true,0),(true,1),(true,2),(true,3),(true,4),(true,5),(true,6),(true,7),(true,8),(true,9),(true,10),(true,11),(true,12),(true,13),(true,14),(true,15)] [16] (fun W=>W.cell? ⟨z.b,3,none⟩=some (.slice pz q cz)∧W.cell? ⟨x.b,3,none⟩=some (.slice px n cx)∧W.cell? ⟨y.b,3,none⟩=some (.slice py m cy)) (by kernel_rfl) (by kernel_rfl) (fun _ _ d _ _ h=>by cases d <;> exact h) ⟨z3,x3,y3⟩ (fun hS0=>?_)
  simp only [Zj,zD,zE,zF,zG,zH,zI]
  iterate 16
   first
    | (refine Z7 ?_ (by rfl) (fun w' hS'=>?_) ?_; rotate_left; (obtain ⟨s0,s1,s2⟩:=hS'; go_simp; first | done | with_reducible rfl); simp only [Act.put,zA,zB,zC])
    | (refine Z6 (by rfl) ?_; simp only [Act.put,zA,zB,zC])
  refine Zb ?_;go_wp2_with fail
  go_loopw [11] (fun i wr=>∃ k:Nat,k≤q∧i=.int .i64 k∧Hid (Below w4.heap.size w4 wr)) (fun i _=>q - (intOf i).toNat)
  case atStart=>exact ⟨0,Yh _,rfl,lh ((Y2 _ _).drew.drew)⟩
  case round=>
   obtain ⟨k,hkq,rfl,HBR⟩:=hrel;have z3r:=cell_below HBR.out z3;have x3r:=cell_below HBR.out x3;have y3r:=cell_below HBR.out y3;by_cases hkl:k < q
   ·obtain ⟨u, hu⟩ : ∃ u, z.kids[k]? = some u := ⟨_, Y6 (by rw [← HQ.out]; exact hkl)⟩
    obtain ⟨gz,hpz,zu⟩:=HIZ.out k u hu;subst hpz;have zur:=cell_below HBR.out zu;have hTu:=(HZ4.out.kid (Yd hu)).bel HBR.out;have hkI:(k:Int) < (q:Int):=by omega
    obtain ⟨d,hd⟩:∃ d:Int,d=(k:Int) - (n:Int):=⟨_,rfl⟩
    have hdI:IntKind.i64.wrap ((k:Int) - (n:Int))=d:=by rw [hd]; exact IntWalk.i64_in _ (by omega)
    have hdW:wrap64 ((k:Int) - (n:Int))=d:=by rw [hd]; exact IntWalk.wrap64_in _ (by omega)
    by_cases hkn:k < n
    ·obtain ⟨v, hv⟩ : ∃ v, x.kids[k]? = some v := ⟨_, Y6 (by rw [← HN.out]; exact hkn)⟩
     obtain ⟨gx,hpx,xv⟩:=HIX.out k v hv;subst hpx;have xvr:=cell_below HBR.out xv;have hTv:=(HX4.out.kid (Yd hv)).bel HBR.out;obtain ⟨e1,e2⟩:=HSX.out k u v hkn hu hv;have hS:=Z9h u.many u v (Y0 _) e2 e1 wr.drew _ _ (hTu.bel (Y2 _ _).drew) (hTv.bel (Y2 _ _).drew);unfold ATree.ptr at hS zur xvr;have HS:=lh hS;have d1:decide (d < 0)=true:=by simp; omega
     have d2:d < 0:=by omega
     have d3:decide (0≤d)=false:=by simp; omega
     have d4:¬ 0≤d:=by omega
     have hknI:(k:Int) < (n:Int):=by omega
     clear hS hTu hTv e1 e2 hu hv hd zu xv;go_wp2_with fail
     refine Z4 [(true,0),(true,1),(true,2),(true,3),(true,4),(true,5),(true,6),(true,7),(true,8),(true,9),(true,10),(true,11),(true,12),(true,13),(true,14),(true,15),(true,16),(false,17),(true,18),(true,19),(true,20),(true,21),(true,22),(true,23),(true,24),(true,25),(true,26),(true,27),(true,28),(true,29),(true,30),(true,31),(true,32),(true,33),(true,34),(true,35),(true,36),(true,37)] [38,39,40,41] (fun W=>W.cell? ⟨z.b,3,none⟩=some (.slice (some ⟨gz,0,none⟩) q cz)∧W.cell? ⟨gz,k,none⟩=some (.pointer (some ⟨u.b,0,none⟩))∧W.cell? ⟨x.b,3,none⟩=some (.slice (some ⟨gx,0,none⟩) n cx)∧W.cell? ⟨gx,k,none⟩=some (.pointer (some ⟨v.b,0,none⟩))) (by kernel_rfl) (by kernel_rfl) (fun _ _ d _ _ h=>by cases d <;> exact h) ⟨z3r,zur,x3r,xvr⟩ (fun hS0=>?_)
     simp only [Zj,zD,zE,zF,zG,zH,zI]
     iterate 17
      first
       | (refine Z7 ?_ (by rfl) (fun w' hS'=>?_) ?_; rotate_left; (obtain ⟨s0,s1,s2,s3⟩:=hS'; go_simp; first | done | with_reducible rfl); simp only [Act.put,zA,zB,zC])
       | (refine Z6 (by rfl) ?_; simp only [Act.put,zA,zB,zC])
     refine Zd (fun K hK=>?_);go_simp
     refine HS.out.mono ?_;rintro e w6 ⟨rfl,hb6⟩;have HB6:=lh (HBR.out.drew.trans (hb6.mono HBR.out.drew.size));refine hK _ _ ⟨cell_below hb6 z3r,cell_below hb6 zur,cell_below hb6 x3r,cell_below hb6 xvr⟩ ?_;clear hK K hb6 HS
     iterate 20
      first
       | (refine Z7 ?_ (by rfl) (fun w' hS'=>?_) ?_; rotate_left; (obtain ⟨s0,s1,s2,s3⟩:=hS'; go_simp; first | done | with_reducible rfl); simp only [Act.put,zA,zB,zC])
       | (refine Z6 (by rfl) ?_; simp only [Act.put,zA,zB,zC])
     refine Zb ?_;go_wp2;go_roundw
     case rel=>exact ⟨k + 1,by omega,by go_num,HB6⟩
     case measure=>simp [intOf]; omega
    ·obtain ⟨j, hj⟩ : ∃ j, k = n + j := ⟨k - n, by omega⟩
     have hjm:j < m:=by have:=HQN.out; omega
     obtain ⟨v,hv⟩:∃ v,y.kids[j]?=some v:=⟨_,Y6 (by rw [← HMM.out]; exact hjm)⟩
     obtain ⟨gy,hpy,yv⟩:=HIY.out j v hv;subst hpy;have yvr:=cell_below HBR.out yv;have hTv:=(HY4.out.kid (Yd hv)).bel HBR.out;obtain ⟨e1,e2⟩:=HSY.out k j u v hj hu hv;have hS:=Z9h u.many u v (Y0 _) e2 e1 wr.drew _ _ (hTu.bel (Y2 _ _).drew) (hTv.bel (Y2 _ _).drew);unfold ATree.ptr at hS zur yvr;have HS:=lh hS;have hdj:d=(j:Int):=by omega
     rw [hdj] at hdI hdW;have d1:decide ((j:Int) < 0)=false:=by simp
     have d2:¬ (j:Int) < 0:=by omega
     have d3:decide (0≤(j:Int))=true:=by simp
     have d4:0≤(j:Int):=by omega
     have hjI:(j:Int) < (m:Int):=by omega
     clear hS hTu hTv e1 e2 hu hv hd zu yv hj hkn hdj;go_wp2_with fail
     refine Z4 [(true,0),(true,1),(true,2),(true,3),(true,4),(true,5),(true,6),(true,7),(true,8),(true,9),(true,10),(true,11),(true,12),(true,13),(true,14),(true,15),(true,16),(false,17),(true,18),(true,19),(true,20),(true,21),(true,22),(true,23),(true,24),(true,25),(true,26),(true,27),(true,28),(true,29),(true,30),(true,31),(true,32),(true,33),(true,34),(true,35),(true,36),(true,37)] [38,39,40,41] (fun W=>W.cell? ⟨z.b,3,none⟩=some (.slice (some ⟨gz,0,none⟩) q cz)∧W.cell? ⟨gz,k,none⟩=some (.pointer (some ⟨u.b,0,none⟩))∧W.cell? ⟨y.b,3,none⟩=some (.slice (some ⟨gy,0,none⟩) m cy)∧W.cell? ⟨gy,j,none⟩=some (.pointer (some ⟨v.b,0,none⟩))) (by kernel_rfl) (by kernel_rfl) (fun _ _ d _ _ h=>by cases d <;> exact h) ⟨z3r,zur,y3r,yvr⟩ (fun hS0=>?_)
     simp only [Zj,zD,zE,zF,zG,zH,zI]
     iterate 17
      first
       | (refine Z7 ?_ (by rfl) (fun w' hS'=>?_) ?_; rotate_left; (obtain ⟨s0,s1,s2,s3⟩:=hS'; go_simp; first | done | with_reducible rfl); simp only [Act.put,zA,zB,zC])
       | (refine Z6 (by rfl) ?_; simp only [Act.put,zA,zB,zC])
     refine Zd (fun K hK=>?_);go_simp
     refine hK _ _ hS0 ?_;clear hK K
     iterate 20
      first
       | (refine Z7 ?_ (by rfl) (fun w' hS'=>?_) ?_; rotate_left; (obtain ⟨s0,s1,s2,s3⟩:=hS'; go_simp; first | done | with_reducible rfl); simp only [Act.put,zA,zB,zC])
       | (refine Z6 (by rfl) ?_; simp only [Act.put,zA,zB,zC])
     refine Zb ?_;go_wp2_with fail
     refine HS.out.mono ?_;rintro e w6 ⟨rfl,hb6⟩;have HB6:=lh (HBR.out.drew.trans (hb6.mono HBR.out.drew.size));clear hb6 HS;go_wp2;go_roundw
     case rel=>exact ⟨k + 1,by omega,by go_num,HB6⟩
     case measure=>simp [intOf]; omega
   ·have hk2 : k = q := by omega
    subst hk2;have HBE:=lh (HB4.out.trans (HBR.out.mono HB4.out.size));go_wp2;go_ret;exact ⟨rfl,HBE.out⟩
theorem Z48 {text:ByteArray} {t:Tree} (h:Z0h text=.ok t):text.size≤3000:=by
 unfold Z0h at h;split at h;·cases h
 ·omega
theorem Z6v (w:World) (a b:ByteArray) (hW:Words w) (hL:Z2l w w.heap.size) (hE:Z36 w) (hT:Tabs w) :
 Calls Tryz.prog 3 #[.string a,.string b] w fun e w'=>e=.returned (.bool true)∧Below w.heap.size w w':=by
 have hup:∀ W,Below w.heap.size w W→Words W∧Z2l W W.heap.size∧Tabs W:=fun W hB=>⟨hW.below hB,by
  intro lv hl;obtain ⟨b,off,cap,h1,h2,h3,h4,h5⟩:=hL.keep (fun k hk=>hB.block k hk) lv hl;exact ⟨b,off,cap,Y7 h1 hB.size,Y7 h2 hB.size,h3,h4,h5⟩,hT.below hB⟩
 have HTO:=lh (fun w1 (hB:Below w.heap.size w w1)=>Zbd w1 (hup w1 hB).1 (hup w1 hB).2.1 (hup w1 hB).2.2);have hA:=Z4f w a hW hL;have hB:∀ W,Below w.heap.size w W→Calls Tryz.prog 4 #[.string b] W (Z78 W (Z0h b)):=fun W h=>Z4f W b (hup W h).1 (hup W h).2.1;have hBk:∃ okb,∀ W,Below w.heap.size w W→Calls Tryz.prog 4 #[.string b] W fun e w'=>(∃ p,e=.returned (.tuple #[p,.bool okb]))∧Below W.heap.size W w':=by
  cases hb:Z0h b with
  | error x=>exact ⟨false,fun W h=>(hB W h).mono fun e w' h2=>by rw [hb] at h2; exact ⟨⟨_,h2.2⟩,h2.1⟩⟩
  | ok t=>exact ⟨t.kind == 1,fun W h=>(hB W h).mono fun e w' h2=>by rw [hb] at h2; obtain ⟨h3,y,h4,_⟩:=h2; exact ⟨⟨_,h4⟩,h3⟩⟩
 cases ha:Z0h a with
 | error x =>
   rw [ha] at hA;obtain ⟨okb,hb⟩:=hBk;exact Zeg w a b false okb rfl (lh (hA.mono fun e w' h=>⟨⟨_,h.2⟩,h.1⟩)) (lh hb) HTO
 | ok tx =>
   rw [ha] at hA;cases hb:Z0h b with
   | error x =>
     refine Zeg w a b (tx.kind == 1) false (by simp) (lh (hA.mono fun e w' h=>?_)) (lh fun W h=>(hB W h).mono fun e w' h2=>by rw [hb] at h2; exact ⟨⟨_,h2.2⟩,h2.1⟩) HTO;obtain ⟨h3,y,h4,_⟩:=h;exact ⟨⟨_,h4⟩,h3⟩
   | ok ty =>
     obtain ⟨l1,_,l2,l3⟩:=Z4b ha;obtain ⟨m1,_,m2,m3⟩:=Z4b hb;have hk1:(tx.kind == 1)=true:=by rw [l2]; rfl
     have hk2:(ty.kind == 1)=true:=by rw [m2]; rfl
     refine Zfp w a b (a ++ ⟨#[10]⟩ ++ b) tx ty (Z48 ha) (Z48 hb) rfl l3 m3 hE (lh (hA.mono fun e w' h=>?_)) (lh fun W h=>(hB W h).mono fun e w' h2=>?_) HTO (lh fun W h=>?_)
     ·obtain ⟨h3,x,h4,h5⟩:=h;rw [hk1] at h4;exact ⟨x,h4,h3,h5.at',h5.tree⟩
     ·rw [hb] at h2;obtain ⟨h3,y,h4,h5⟩:=h2;rw [hk2] at h4;exact ⟨y,h4,h3,h5.at',h5.tree⟩
     ·have hP := Z7u W (a ++ ⟨#[10]⟩ ++ b) (hup W h).1 (hup W h).2.1;rw [Z6s (s := ⟨#[10]⟩) rfl (by decide) ha hb] at hP;by_cases hz : 3000 < (a ++ ⟨#[10]⟩ ++ b).size
      ·rw [Y5 hz] at hP;refine hP.mono fun e w2 h2 => ⟨h2.1, .inl ?_⟩;obtain ⟨_, x, rfl, hx⟩ := h2;rcases hx with ⟨_, rfl⟩ | ⟨q, hq, _⟩;·rfl
       ·omega
      ·rw [Y3 hz] at hP;by_cases hz2 : 1500 < (Zdd tx ty).many
       ·rw [Y5 hz2] at hP;refine hP.mono fun e w2 h2 => ⟨h2.1, .inl ?_⟩;obtain ⟨_, x, rfl, hx⟩ := h2;rcases hx with ⟨_, rfl⟩ | ⟨q, hq, _⟩;·rfl
        ·omega
       ·rw [Y3 hz2] at hP;refine hP.mono fun e w2 h2=>⟨h2.1,.inr ?_⟩;obtain ⟨_,z,rfl,hg⟩:=h2;exact ⟨z,rfl,hg.at',hg.tree⟩
end Go.Proofs.YtjcgkdfeplbajaaGreatDoor
namespace Go.Proofs.YtjcgkdfeplbajaaGreatDoor
open Go Go.RowKit
set_option maxRecDepth 100000
set_option maxHeartbeats 20000000
theorem Z67 {H:Type} {enc:TypeId×Value→H} {P:Program} {w:World} {base:Nat} {sp:Nat→Bool} {held:Bool} {fuel:Nat} {t e:TypeId} {n:Nat} {cs:List Value} {l:List (List UInt8)} {p:List MemPlace}
 (ht:P.underlying t=some (.array n e)) (he:P.underlying e=some .string) (hce:P.cellsOf e=1) (hct:P.cellsOf t=n)
 (h:DataW.trod enc P w base sp held fuel t cs=some (.agg (l.map fun b=>.lit (.string b)),p)):cs=l.map fun b=>Value.string ⟨b.toArray⟩:=by
 cases fuel with
 | zero=>simp [DataW.trod] at h
 | succ fuel =>
   simp only [DataW.trod,ht,hce,hct,Nat.mul_one] at h;split at h
   ·rename_i hl;obtain ⟨xs,hm,hx⟩:=Option.map_eq_some_iff.1 h;have hxs:xs.map (·.1)=l.map fun b=>(DataW.lit (.string b):DataW H):=by
     have:=congrArg Prod.fst hx;simpa using this
    have hxl:xs.length=n:=by simpa using Lib.mapM_length hm
    have hzl:l.length=n:=by
     have:=congrArg List.length hxs;simp at this;omega
    apply List.ext_getElem?;intro i;by_cases hi:i < n
    ·obtain ⟨b,hb,hf⟩:=Lib.mapM_at hm i i (by simp [hi]);obtain ⟨s,hc,rfl,_⟩:=DataW.trod_string he hf;have h1:cs[i]?=some (.string s):=by
      have:=congrArg (·[0]?) hc;simpa [List.getElem?_take,List.getElem?_drop] using this
     have h2:(xs.map (·.1))[i]?=some (DataW.lit (.string s.data.toList):DataW H):=by simp [hb]
     rw [hxs] at h2;simp only [List.getElem?_map,Option.map_eq_some_iff,DataW.lit.injEq,Lit.string.injEq] at h2;obtain ⟨z',hz',hzz⟩:=h2;simp only [h1,List.getElem?_map,hz',Option.map_some,hzz]
    ·rw [List.getElem?_eq_none (by omega),List.getElem?_eq_none (by simp; omega)]
   ·cases h
theorem Zf6 {H:Type} {enc:TypeId×Value→H} {P:Program} {w:World} {base:Nat} {sp:Nat→Bool} {held:Bool} {fuel:Nat} {e:TypeId} {v:Value} {b:List UInt8} {q:List MemPlace} (he:P.underlying e=some .string)
 (h:DataW.trod enc P w base sp held fuel e [v]=some (.lit (.string b),q)):v=.string ⟨b.toArray⟩:=by
 obtain ⟨s,hc,hx,_⟩:=DataW.trod_string he h;simp only [List.cons.injEq,and_true] at hc;simp only [Prod.mk.injEq,DataW.lit.injEq,Lit.string.injEq] at hx;rw [hc,hx.1]
theorem Z3g {P:Program} {W:World} {name:String} {d:DataW Unit} {rest:List (String×DataW Unit)} {g:Nat} {t e:TypeId} {n:Nat} {l:List (List UInt8)}
 (hg:P.globalNamed name=some g) (hty:(P.globals[g]?).map (·.type)=some t) (ht:P.underlying t=some (.array n e)) (he:P.underlying e=some .string) (hce:P.cellsOf e=1) (hct:P.cellsOf t=n)
 (hd:d=.agg (l.map fun b=>.lit (.string b))) (h:laidMet P ((name,d) :: rest) W) (i:Nat) (b:List UInt8) (hi:l[i]?=some b):W.cell? ⟨g,i,none⟩=some (.string ⟨b.toArray⟩):=by
 obtain ⟨ps,⟨g',t',cs,fuel,p,q,hg',ht',hvar,hd',_,_⟩,_⟩:=h;obtain rfl:=Yc (hg.symm.trans hg');obtain rfl:=Yc (hty.symm.trans ht');rw [hd] at hd';have hc:=Z67 ht he hce hct hd';have:=World.var?_cell hg hvar i;rw [this];have hx:cs=(l.map fun b=>Value.string ⟨b.toArray⟩).toArray:=by rw [← hc]
 rw [hx];simp [hi]
theorem Zeq {H:Type} {enc:TypeId×Value→H} {P:Program} {w:World} {base:Nat} {sp:Nat→Bool} {held:Bool} {fuel:Nat} {t e:TypeId} {n:Nat} {cs:List Value} {l:List (DataW H)} {p:List MemPlace}
 (ht:P.underlying t=some (.array n e)) (hce:P.cellsOf e=1) (hct:P.cellsOf t=n)
 (h:DataW.trod enc P w base sp held fuel t cs=some (.agg l,p)) (i:Nat) (r:DataW H) (hi:l[i]?=some r) :
 ∃ fuel' q,DataW.trod enc P w base sp held fuel' e ((cs.drop i).take 1)=some (r,q):=by
 cases fuel with
 | zero=>simp [DataW.trod] at h
 | succ fuel =>
   simp only [DataW.trod,ht,hce,hct,Nat.mul_one] at h;split at h
   ·rename_i hl;obtain ⟨xs,hm,hx⟩:=Option.map_eq_some_iff.1 h;have hxs:xs.map (·.1)=l:=by
     have:=congrArg Prod.fst hx;simpa using this
    have hxl:xs.length=n:=by simpa using Lib.mapM_length hm
    have hin:i < n:=by
     have h1:=(List.getElem?_eq_some_iff.1 hi).1;rw [← hxs,Yl] at h1;omega
    obtain ⟨b,hb,hf⟩:=Lib.mapM_at hm i i (by simp [hin]);have h2:(xs.map (·.1))[i]?=some b.1:=by simp [hb]
    rw [hxs,hi] at h2;exact ⟨fuel,b.2,by rw [Yc h2]; exact hf⟩
   ·cases h
theorem Z69 {P:Program} {W:World} {n1 name:String} {d1 d:DataW Unit} {rest:List (String×DataW Unit)} {g:Nat} {t e f:TypeId} {n:Nat} {l:List (List (List UInt8))}
 (hg:P.globalNamed name=some g) (hty:(P.globals[g]?).map (·.type)=some t) (ht:P.underlying t=some (.array n e)) (he:P.underlying e=some (.slice f)) (hf:P.underlying f=some .string)
 (hce:P.cellsOf e=1) (hcf:P.cellsOf f=1) (hct:P.cellsOf t=n)
 (hd:d=.agg (l.map fun r=>.slice (r.map fun b=>.lit (.string b)) [])) (h:laidMet P ((n1,d1) :: (name,d) :: rest) W) (i:Nat) (r:List (List UInt8)) (hi:l[i]?=some r) (hr:0 < r.length) :
 ∃ b off cap,W.cell? ⟨g,i,none⟩=some (.slice (some ⟨b,off,none⟩) r.length cap)∧r.length≤cap∧∀ j x,r[j]?=some x→W.cell? ⟨b,off + j,none⟩=some (.string ⟨x.toArray⟩):=by
 obtain ⟨ps,⟨_,_,_,_,_,_,_,_,_,_,h2,_⟩,_⟩:=h;obtain ⟨g',t',cs,fuel,p,q,hg',ht',hvar,hd',_,_⟩:=h2;obtain rfl:=Yc (hg.symm.trans hg');obtain rfl:=Yc (hty.symm.trans ht');rw [hd] at hd';obtain ⟨fuel',q',hrow⟩:=Zeq ht hce hct hd' i (.slice (r.map fun b=>.lit (.string b)) []) (by rw [Yg,hi]; rfl);obtain ⟨a,cap,hcs,hcap,hel⟩:=open_row he hcf hrow;rw [Yl] at hcs hcap;have hcell:W.cell? ⟨g,i,none⟩=some (.slice (some a) r.length cap):=by
  rw [World.var?_cell hg hvar i];have:=congrArg (·[0]?) hcs;simpa [List.getElem?_take,List.getElem?_drop] using this
 obtain ⟨b,off,spot⟩:=a;have hspot:spot=none:=by
  obtain ⟨x,hx⟩:∃ x,r[0]?=some x:=⟨r[0],Y6 hr⟩
  obtain ⟨v,n,q,hc,_⟩:=hel 0 _ (by rw [Yg,hx]; rfl);simpa [Addr.add] using World.cell?_spot hc
 subst hspot;refine ⟨b,off,cap,hcell,hcap,fun j x hx=>?_⟩;obtain ⟨v,n,q,hc,hr⟩:=hel j _ (by rw [Yg,hx]; rfl);rw [Zf6 hf hr] at hc;rwa [show ((⟨b,off,none⟩:Addr).add j)=⟨b,off + j,none⟩ by unfold Addr.add; split <;> simp_all] at hc
end Go.Proofs.YtjcgkdfeplbajaaGreatDoor
