/- errors.As at a target of type Errno: at an error that wraps one. -/
import Derived.Test.YtgifgiipojedbaaDoorAs
namespace Go.Proofs.YtgifgiipojedbaaDoor
open Go.RowKit Go.Extern.Stop Go.Stop Go.Extern
set_option maxRecDepth 100000

theorem Tryd.typeOfAt (v : Value) (w : World) : (ReflectliteType.typeOf #[.iface 153 v]).run Tryd.prog w = .ok (.iface 229 (.agg #[.pointer (some ⟨11, 153, none⟩)])) w := by kernel_rfl
theorem Tryd.assertAt1 (b : Nat) (w : World) : (Instr.typeAssert (.iface 153 (.pointer (some ⟨b, 0, none⟩))) 45 234 true).run Tryd.prog w = .ok (.tuple #[.nilIface, .bool false]) w := run_typeAssert_lacksB Tryd.underlying234 (by kernel_rfl) (by kernel_rfl) _ _ w
theorem Tryd.assertAt2 (b : Nat) (w : World) : (Instr.typeAssert (.iface 153 (.pointer (some ⟨b, 0, none⟩))) 45 179 true).run Tryd.prog w = .ok (.tuple #[.iface 153 (.pointer (some ⟨b, 0, none⟩)), .bool true]) w := run_typeAssert_hasB Tryd.underlying179 (by kernel_rfl) _ _ w
theorem Tryd.methodUnwrap (b : Nat) (w : World) : (Go.method 383 153 (.pointer (some ⟨b, 0, none⟩)) "Unwrap").run Tryd.prog w = .ok (189, .pointer (some ⟨b, 0, none⟩)) w := by kernel_rfl
theorem Tryd.assignableAt (w : World) : (ReflectliteType.relation "AssignableTo" ReflectliteType.assignableTo #[.agg #[.pointer (some ⟨11, 153, none⟩)], .iface 229 (.agg #[.pointer (some ⟨11, 47, none⟩)])]).run Tryd.prog w = .ok (.bool false) w := by kernel_rfl

set_option maxHeartbeats 4000000 in
theorem as_at (e p : Int) (b : Nat) (t : Addr) (old : Value) (w : World) (hg : w.cell? ⟨6, 0, none⟩ = some (.iface 229 (.agg #[.pointer (some ⟨11, 45, none⟩)]))) (ht0 : w.cell? t = some old) (hf0 : w.frozen? t = false) (hbk : w.heap[b]? = some (.cells #[.int .i64 e, .int .i64 p] 154 (0, 0))) :
    Calls Tryd.prog 118 #[.iface 153 (.pointer (some ⟨b, 0, none⟩)), .iface 198 (.pointer (some t))] w fun ev w' => ev = .returned (.bool true) ∧ w' = ((((w.alloc (.cells #[.pointer (some t)] 198)).alloc (.cells #[.pointer (some ⟨11, 198, none⟩), .pointer (some ⟨w.heap.size, 0, none⟩), .int .u64 150] 214)).alloc (.cells #[.pointer (some ⟨11, 198, none⟩), .pointer (some ⟨w.heap.size, 0, none⟩), .int .u64 150] 214)).alloc (.cells #[.int .i64 e] 47)).setCell t (.int .i64 e) := by
  have h6 := @run_callFunc_extern Tryd.prog 136 _ (fun args => ReflectliteValue.unpack (args.getD 0 (.tuple #[]))) Tryd.func136 (by kernel_rfl) (by kernel_rfl) (by kernel_rfl) (by kernel_rfl)
  have h7 := @run_callFunc_extern Tryd.prog 137 _ (ReflectliteValue.methodAny (ReflectliteValue.valueError "reflectlite.Value.Type" 0) (fun t _ _ _ => ReflectliteType.toType t)) Tryd.func137 (by kernel_rfl) (by kernel_rfl) (by kernel_rfl) (by kernel_rfl)
  have h8 := @run_callFunc_extern Tryd.prog 138 _ (ReflectliteValue.method (ReflectliteValue.valueError "reflectlite.Value.IsNil" 0) ReflectliteValue.isNil) Tryd.func138 (by kernel_rfl) (by kernel_rfl) (by kernel_rfl) (by kernel_rfl)
  have h27 := @run_callFunc_extern Tryd.prog 182 _ (ReflectliteType.abiMethod fun t => do pure (.int .u8 (← Rtype.kind t))) Tryd.func182 (by kernel_rfl) (by kernel_rfl) (by kernel_rfl) (by kernel_rfl)
  have h37 := @run_callFunc_extern Tryd.prog 200 _ (ReflectliteType.method ReflectliteType.elem) Tryd.func200 (by kernel_rfl) (by kernel_rfl) (by kernel_rfl) (by kernel_rfl)
  have h38 := @run_callFunc_extern Tryd.prog 201 _ (ReflectliteType.relation "Implements" ReflectliteType.implements_) Tryd.func201 (by kernel_rfl) (by kernel_rfl) (by kernel_rfl) (by kernel_rfl)
  have h10 := @run_callFunc_extern Tryd.prog 147 _ ReflectliteType.typeOf Tryd.func147 (by kernel_rfl) (by kernel_rfl) (by kernel_rfl) (by kernel_rfl)
  have h35 := @run_callFunc_extern Tryd.prog 198 _ (ReflectliteType.relation "AssignableTo" ReflectliteType.assignableTo) Tryd.func198 (by kernel_rfl) (by kernel_rfl) (by kernel_rfl) (by kernel_rfl)
  have h11 := @run_callFunc_extern Tryd.prog 148 _ (ReflectliteValue.method (ReflectliteValue.valueError "reflectlite.Value.Elem" 0) ReflectliteValue.elem) Tryd.func148 (by kernel_rfl) (by kernel_rfl) (by kernel_rfl) (by kernel_rfl)
  have h12 := @run_callFunc_extern Tryd.prog 149 _ ReflectliteValue.set Tryd.func149 (by kernel_rfl) (by kernel_rfl) (by kernel_rfl) (by kernel_rfl)
  have tO := Tryd.typeOf25
  have tOA := Tryd.typeOfAt
  have aA := Tryd.assignableAt
  have t1 := Tryd.assertAt1
  have t2 := Tryd.assertAt2
  have mU := Tryd.methodUnwrap
  have mA := Tryd.methodAssignableTo
  have a25 := Tryd.assignable25
  have v25 := Tryd.valueOf25
  have f6 := Tryd.valueOf27
  have f7 := Tryd.type27
  have mK := Tryd.methodKind
  have mE := Tryd.methodElem
  have mI := Tryd.methodImplements
  have k27 := Tryd.kind27
  have k25 := Tryd.kind25
  have e27 := Tryd.elem27
  have i25 := Tryd.implements25
  have n8 := Tryd.isNil27 ⟨w.heap.size, 0, none⟩ t ((w.alloc (.cells #[.pointer (some t)] 198)).alloc (.cells #[.pointer (some ⟨11, 198, none⟩), .pointer (some ⟨w.heap.size, 0, none⟩), .int .u64 150] 214)) (by simp)
  have hlt : 6 < w.heap.size := by
    rcases Nat.lt_or_ge 6 w.heap.size with h | h
    · exact h
    · simp [World.cell?, Array.getElem?_eq_none h] at hg
  have hg2 : ((w.alloc (.cells #[.pointer (some t)] 198)).alloc (.cells #[.pointer (some ⟨11, 198, none⟩), .pointer (some ⟨w.heap.size, 0, none⟩), .int .u64 150] 214)).cell? ⟨6, 0, none⟩ = some (.iface 229 (.agg #[.pointer (some ⟨11, 45, none⟩)])) := by
    rw [World.cell?_alloc_lt _ _ ⟨6, 0, none⟩ (by simp; omega), World.cell?_alloc_lt _ _ ⟨6, 0, none⟩ hlt]; exact hg
  have htl : t.block < w.heap.size := by
    rcases Nat.lt_or_ge t.block w.heap.size with h | h
    · exact h
    · simp [World.cell?, Array.getElem?_eq_none h] at ht0
  have el := Tryd.elemV27 ⟨w.heap.size, 0, none⟩ t (((w.alloc (.cells #[.pointer (some t)] 198)).alloc (.cells #[.pointer (some ⟨11, 198, none⟩), .pointer (some ⟨w.heap.size, 0, none⟩), .int .u64 150] 214)).alloc (.cells #[.pointer (some ⟨11, 198, none⟩), .pointer (some ⟨w.heap.size, 0, none⟩), .int .u64 150] 214)) (by rw [World.cell?_alloc_lt _ _ ⟨w.heap.size, 0, none⟩ (by simp; omega)]; simp)
  have st := Tryd.set25 t ⟨w.heap.size + 1 + 1 + 1, 0, none⟩ e old ((((w.alloc (.cells #[.pointer (some t)] 198)).alloc (.cells #[.pointer (some ⟨11, 198, none⟩), .pointer (some ⟨w.heap.size, 0, none⟩), .int .u64 150] 214)).alloc (.cells #[.pointer (some ⟨11, 198, none⟩), .pointer (some ⟨w.heap.size, 0, none⟩), .int .u64 150] 214)).alloc (.cells #[.int .i64 e] 47))
    (by rw [World.cell?_alloc_at _ _ _ _ (by simp)]; rfl)
    (by rw [World.cell?_alloc_lt _ _ t (by simp; omega), World.cell?_alloc_lt _ _ t (by simp; omega), World.cell?_alloc_lt _ _ t (by simp; omega), World.cell?_alloc_lt _ _ t htl]; exact ht0)
    (by rw [World.frozen?_alloc_old _ _ t (by simp; omega), World.frozen?_alloc_old _ _ t (by simp; omega), World.frozen?_alloc_old _ _ t (by simp; omega), World.frozen?_alloc_old _ _ t (Nat.ne_of_lt htl)]; exact hf0)
  go_enter Tryd.func118, Tryd.ntmps118
  have cb : ∀ o1 o2 o3 : Obj, (((w.alloc o1).alloc o2).alloc o3).cell? ⟨b, 0, none⟩ = some (.int .i64 e) := fun o1 o2 o3 => by
    have hbl := (Array.getElem?_eq_some_iff.1 hbk).1
    rw [World.cell?_alloc_lt _ _ ⟨b, 0, none⟩ (by simp; omega), World.cell?_alloc_lt _ _ ⟨b, 0, none⟩ (by simp; omega), World.cell?_alloc_lt _ _ ⟨b, 0, none⟩ hbl]
    simp [World.cell?, hbk]
  go_wp2
  refine wp_loop_rounds 2 ?_
  rw [rounds_succ]
  go_wp2
  rw [rounds_succ]
  go_wp2
  go_ret
  exact ⟨rfl, rfl⟩
end Go.Proofs.YtgifgiipojedbaaDoor
