/- Two heaps side by side: package heap's and the reference's; what a call on one of them leaves of the other. errors.As at a target of type Errno: at an error that wraps one. plain.Place; the laws' at. The laws' bare: an error without a place. A region that draws its order, walked as a tree: what only reads is taken first; where two may come up, both are walked; what the loads ask of the world ('S') holds until number 't' comes up. -/
import Derived.Test.YtfanolcjgaccpaaDoorJ08
import Derived.Test.YtfanolcjgaccpaaDoorJ15
import Derived.Test.YtfanolcjgaccpaaDoorJ14
import Derived.Test.YtfanolcjgaccpaaDoorJ07
namespace Go.Proofs.YtfanolcjgaccpaaDoor
open Go Go.RowKit
set_option maxRecDepth 100000
set_option linter.unusedVariables false

/-- both heaps, and blocks beside them -/
def Duo (w0 : World) (K : List (Nat × Obj)) (hb rb : Nat) (H1 H2 : LHeap) (w : World) : Prop :=
  ∃ ρ L V, HeapAt ρ w hb 0 L H1 ∧ RAt w rb V H2 ∧ (∀ b, V.own rb b → ρ b = none) ∧ Below w0.heap.size w0 w ∧
    (∀ b, b < w0.heap.size → ρ b = none ∧ ¬ V.own rb b) ∧ (∀ p ∈ K, w.heap[p.1]? = some p.2 ∧ ρ p.1 = none ∧ ¬ V.own rb p.1)

section
variable {w0 w w' : World} {K : List (Nat × Obj)} {hb rb : Nat} {H1 H2 H3 : LHeap}

theorem Duo.base (h : Duo w0 K hb rb H1 H2 w) : Below w0.heap.size w0 w := by
  obtain ⟨ρ, L, V, h1, h2, h3, h4, h5, h6⟩ := h; exact h4
theorem Duo.below (h : Duo w0 K hb rb H1 H2 w) (hB : Below w.heap.size w w') : Duo w0 K hb rb H1 H2 w' := by
  obtain ⟨ρ, L, V, h1, h2, h3, h4, h5, h6⟩ := h
  exact ⟨ρ, L, V, h1.below hB, h2.below hB, h3, h4.trans (hB.mono h4.size), h5, fun p hp => ⟨(hB.block _ (Array.getElem?_eq_some_iff.1 (h6 p hp).1).1).trans (h6 p hp).1, (h6 p hp).2⟩⟩
theorem Duo.drew (h : Duo w0 K hb rb H1 H2 w) : Duo w0 K hb rb H1 H2 w.drew := h.below (Below.refl _ _).drew
theorem Duo.weak {K' : List (Nat × Obj)} (h : Duo w0 K hb rb H1 H2 w) (hK : ∀ p ∈ K', p ∈ K) : Duo w0 K' hb rb H1 H2 w := by
  obtain ⟨ρ, L, V, h1, h2, h3, h4, h5, h6⟩ := h
  exact ⟨ρ, L, V, h1, h2, h3, h4, h5, fun p hp => h6 p (hK p hp)⟩
theorem Duo.get (h : Duo w0 K hb rb H1 H2 w) {p : Nat × Obj} (hp : p ∈ K) : w.heap[p.1]? = some p.2 := by
  obtain ⟨ρ, L, V, h1, h2, h3, h4, h5, h6⟩ := h
  exact (h6 p hp).1
theorem fresh_role {ρ : Nat → Option Role} {L : HL} (h : HeapAt ρ w hb 0 L H1) {b : Nat} (hb' : w.heap.size ≤ b) : ρ b = none := h.fresh hb'
theorem fresh_own {V : RV} (h : RAt w rb V H2) {b : Nat} (hb' : w.heap.size ≤ b) : ¬ V.own rb b := fun e => by have := h.live e; omega
/-- a new block beside both -/
theorem Duo.alloc (h : Duo w0 K hb rb H1 H2 w) (o : Obj) : Duo w0 ((w.heap.size, o) :: K) hb rb H1 H2 (w.alloc o) := by
  obtain ⟨ρ, L, V, g1, g2, g3, g4, g5, g6⟩ := h
  refine ⟨ρ, L, V, g1.below ((Below.refl _ _).alloc (Nat.le_refl _) o), g2.below ((Below.refl _ _).alloc (Nat.le_refl _) o), g3, g4.trans (((Below.refl _ _).alloc (Nat.le_refl _) o).mono g4.size), g5, fun p hp => ?_⟩
  rcases List.mem_cons.1 hp with rfl | hp
  · exact ⟨heap_alloc_new w o, fresh_role g1 (Nat.le_refl _), fresh_own g2 (Nat.le_refl _)⟩
  · exact ⟨(((Below.refl _ _).alloc (Nat.le_refl _) o).block _ (Array.getElem?_eq_some_iff.1 (g6 p hp).1).1).trans (g6 p hp).1, (g6 p hp).2⟩
/-- a block beside both that is changed -/
theorem Duo.put (h : Duo w0 K hb rb H1 H2 w) {b : Nat} {o : Obj} (hb0 : w0.heap.size ≤ b) {i : Nat} (x : Value) (hm : (b, o) ∈ K) {o' : Obj} (ho : (w.setCell ⟨b, i, none⟩ x).heap[b]? = some o') (K' : List (Nat × Obj)) (hK : ∀ p ∈ K', p = (b, o') ∨ (p ∈ K ∧ p.1 ≠ b)) :
    Duo w0 K' hb rb H1 H2 (w.setCell ⟨b, i, none⟩ x) := by
  obtain ⟨ρ, L, V, h1, h2, h3, h4, h5, h6⟩ := h
  obtain ⟨q1, q2, q3⟩ := h6 _ hm
  have far : ∀ k, k ≠ b → (w.setCell ⟨b, i, none⟩ x).heap[k]? = w.heap[k]? := fun k hk => Below.heap_setCell _ _ _ _ hk
  refine ⟨ρ, L, V, h1.keep (by simp) fun k hk => far k (fun e => hk (by rw [e]; exact q2)), h2.keep (by simp) fun k hk => far k (fun e => q3 (by rw [← e]; exact hk)), h3, h4.setCell hb0 x, h5, fun p hp => ?_⟩
  rcases hK p hp with rfl | ⟨hp', hne⟩
  · exact ⟨ho, q2, q3⟩
  · exact ⟨(far _ hne).trans (h6 p hp').1, (h6 p hp').2⟩
/-- a call on package heap's -/
theorem Duo.heap (h : Duo w0 K hb rb H1 H2 w) {f : Nat} {args : Array Value} {P : Ending → Prop}
    (hc : ∀ ρ L, HeapAt ρ w hb 0 L H1 → Calls Tryd.prog f args w fun e w' => P e ∧ ∃ ρ' L', HeapAt ρ' w' hb 0 L' H3 ∧ Fr ρ ρ' hb 0 w w') :
    Calls Tryd.prog f args w fun e w' => P e ∧ Duo w0 K hb rb H3 H2 w' := by
  obtain ⟨ρ, L, V, h1, h2, h3, h4, h5, h6⟩ := h
  refine (hc ρ L h1).mono fun e w' ⟨he, ρ', L', hA, hF⟩ => ⟨he, ρ', L', V, hA, h2.keep hF.size fun b hb' => hF.block b (h2.live hb') (h3 b hb'), fun b hb' => hF.role b (h2.live hb') (h3 b hb'), ?_, ?_, ?_⟩
  · exact h4.trans ⟨hF.os, hF.tape, hF.output, hF.size, fun k hk => hF.block k (Nat.lt_of_lt_of_le hk h4.size) (h5 k hk).1⟩
  · exact fun b hb' => ⟨hF.role b (Nat.lt_of_lt_of_le hb' h4.size) (h5 b hb').1, (h5 b hb').2⟩
  · intro p hp
    obtain ⟨q1, q2, q3⟩ := h6 p hp
    have hl := (Array.getElem?_eq_some_iff.1 q1).1
    exact ⟨(hF.block _ hl q2).trans q1, hF.role _ hl q2, q3⟩
theorem Duo.refd (h : Duo w0 K hb rb H1 H2 w) {w' : World} (hc : ∀ V, RAt w rb V H2 → ∃ V', RAt w' rb V' H3 ∧ RFr V V' rb w w') : Duo w0 K hb rb H1 H3 w' := by
  obtain ⟨ρ, L, V, h1, h2, h3, h4, h5, h6⟩ := h
  obtain ⟨V', hA, hF⟩ := hc V h2
  have own : ∀ b, V'.own rb b → ρ b = none := fun b hb' => by
    by_cases hl : b < w.heap.size
    · exact h3 b (hF.own b hl hb')
    · exact h1.fresh (by omega)
  refine ⟨ρ, L, V', h1.keep hF.size fun b hb' => hF.block b (h1.live b hb') (fun e => hb' (h3 b e)), hA, own, ?_, ?_, ?_⟩
  · exact h4.trans ⟨hF.os, hF.tape, hF.output, hF.size, fun k hk => hF.block k (Nat.lt_of_lt_of_le hk h4.size) (h5 k hk).2⟩
  · exact fun b hb' => ⟨(h5 b hb').1, fun e => (h5 b hb').2 (hF.own b (Nat.lt_of_lt_of_le hb' h4.size) e)⟩
  · intro p hp
    obtain ⟨q1, q2, q3⟩ := h6 p hp
    have hl := (Array.getElem?_eq_some_iff.1 q1).1
    exact ⟨(hF.block _ hl q3).trans q1, q2, fun e => q3 (hF.own _ hl e)⟩
/-- a call on the reference's -/
theorem Duo.ref (h : Duo w0 K hb rb H1 H2 w) {f : Nat} {args : Array Value} {P : Ending → Prop}
    (hc : ∀ V, RAt w rb V H2 → Calls Tryd.prog f args w fun e w' => P e ∧ ∃ V', RAt w' rb V' H3 ∧ RFr V V' rb w w') :
    Calls Tryd.prog f args w fun e w' => P e ∧ Duo w0 K hb rb H1 H3 w' := by
  have h' := h
  obtain ⟨ρ, L, V, h1, h2, h3, h4, h5, h6⟩ := h
  refine (hc V h2).mono fun e w' ⟨he, V', hA, hF⟩ => ⟨he, ?_⟩
  have own : ∀ b, V'.own rb b → ρ b = none := fun b hb' => by
    by_cases hl : b < w.heap.size
    · exact h3 b (hF.own b hl hb')
    · exact h1.fresh (by omega)
  refine ⟨ρ, L, V', h1.keep hF.size fun b hb' => hF.block b (h1.live b hb') (fun e => hb' (h3 b e)), hA, own, ?_, ?_, ?_⟩
  · exact h4.trans ⟨hF.os, hF.tape, hF.output, hF.size, fun k hk => hF.block k (Nat.lt_of_lt_of_le hk h4.size) (h5 k hk).2⟩
  · exact fun b hb' => ⟨(h5 b hb').1, fun e => (h5 b hb').2 (hF.own b (Nat.lt_of_lt_of_le hb' h4.size) e)⟩
  · intro p hp
    obtain ⟨q1, q2, q3⟩ := h6 p hp
    have hl := (Array.getElem?_eq_some_iff.1 q1).1
    exact ⟨(hF.block _ hl q3).trans q1, q2, fun e => q3 (hF.own _ hl e)⟩
/-- a call that only reads -/
theorem Duo.reads (h : Duo w0 K hb rb H1 H2 w) {f : Nat} {args : Array Value} {P : Ending → World → Prop} (hc : Calls Tryd.prog f args w fun e w' => P e w' ∧ Below w.heap.size w w') :
    Calls Tryd.prog f args w fun e w' => P e w' ∧ Duo w0 K hb rb H1 H2 w' := hc.mono fun e w' ⟨he, hB⟩ => ⟨he, h.below hB⟩
theorem Duo.readH (h : Duo w0 K hb rb H1 H2 w) {f : Nat} {args : Array Value} {P : Ending → World → Prop} (hc : ∀ ρ L, HeapAt ρ w hb 0 L H1 → Calls Tryd.prog f args w fun e w' => P e w' ∧ Below w.heap.size w w') :
    Calls Tryd.prog f args w fun e w' => P e w' ∧ Below w.heap.size w w' ∧ Duo w0 K hb rb H1 H2 w' := by
  have h' := h
  obtain ⟨ρ, L, V, h1, h2, _⟩ := h
  exact (hc ρ L h1).mono fun e w' ⟨he, hB⟩ => ⟨he, hB, h'.below hB⟩
theorem Duo.readR (h : Duo w0 K hb rb H1 H2 w) {f : Nat} {args : Array Value} {P : Ending → World → Prop} (hc : ∀ V, RAt w rb V H2 → Calls Tryd.prog f args w fun e w' => P e w' ∧ Below w.heap.size w w') :
    Calls Tryd.prog f args w fun e w' => P e w' ∧ Below w.heap.size w w' ∧ Duo w0 K hb rb H1 H2 w' := by
  have h' := h
  obtain ⟨ρ, L, V, h1, h2, _⟩ := h
  exact (hc V h2).mono fun e w' ⟨he, hB⟩ => ⟨he, hB, h'.below hB⟩
theorem Duo.err (h : Duo w0 K hb rb H1 H2 w) (hg : ErrType w0) : ErrType w := hg.below h.base
end
end Go.Proofs.YtfanolcjgaccpaaDoor

namespace Go.Proofs.YtfanolcjgaccpaaDoor
open Go.RowKit Go.Extern.Stop Go.Stop Go.Extern
set_option maxRecDepth 100000

theorem Tryd.typeOfAt (v : Value) (w : World) : (ReflectliteType.typeOf #[.iface 119 v]).run Tryd.prog w = .ok (.iface 143 (.agg #[.pointer (some ⟨2, 119, none⟩)])) w := by kernel_rfl
theorem Tryd.assertAt1 (b : Nat) (w : World) : (Instr.typeAssert (.iface 119 (.pointer (some ⟨b, 0, none⟩))) 45 148 true).run Tryd.prog w = .ok (.tuple #[.nilIface, .bool false]) w := run_typeAssert_lacksB Tryd.underlying148 (by kernel_rfl) (by kernel_rfl) _ _ w
theorem Tryd.assertAt2 (b : Nat) (w : World) : (Instr.typeAssert (.iface 119 (.pointer (some ⟨b, 0, none⟩))) 45 122 true).run Tryd.prog w = .ok (.tuple #[.iface 119 (.pointer (some ⟨b, 0, none⟩)), .bool true]) w := run_typeAssert_hasB Tryd.underlying122 (by kernel_rfl) _ _ w
theorem Tryd.methodUnwrap (b : Nat) (w : World) : (Go.method 282 119 (.pointer (some ⟨b, 0, none⟩)) "Unwrap").run Tryd.prog w = .ok (91, .pointer (some ⟨b, 0, none⟩)) w := by kernel_rfl
theorem Tryd.assignableAt (w : World) : (ReflectliteType.relation "AssignableTo" ReflectliteType.assignableTo #[.agg #[.pointer (some ⟨2, 119, none⟩)], .iface 143 (.agg #[.pointer (some ⟨2, 47, none⟩)])]).run Tryd.prog w = .ok (.bool false) w := by kernel_rfl

set_option maxHeartbeats 4000000 in
theorem as_at (e p : Int) (b : Nat) (t : Addr) (old : Value) (w : World) (hg : w.cell? ⟨1, 0, none⟩ = some (.iface 143 (.agg #[.pointer (some ⟨2, 45, none⟩)]))) (ht0 : w.cell? t = some old) (hf0 : w.frozen? t = false) (hbk : w.heap[b]? = some (.cells #[.int .i64 e, .int .i64 p] 121 (0, 0))) :
    Calls Tryd.prog 62 #[.iface 119 (.pointer (some ⟨b, 0, none⟩)), .iface 129 (.pointer (some t))] w fun ev w' => ev = .returned (.bool true) ∧ w' = ((((w.alloc (.cells #[.pointer (some t)] 129)).alloc (.cells #[.pointer (some ⟨2, 129, none⟩), .pointer (some ⟨w.heap.size, 0, none⟩), .int .u64 150] 132)).alloc (.cells #[.pointer (some ⟨2, 129, none⟩), .pointer (some ⟨w.heap.size, 0, none⟩), .int .u64 150] 132)).alloc (.cells #[.int .i64 e] 47)).setCell t (.int .i64 e) := by
  have h6 := @run_callFunc_extern Tryd.prog 63 _ (fun args => ReflectliteValue.unpack (args.getD 0 (.tuple #[]))) Tryd.func63 (by kernel_rfl) (by kernel_rfl) (by kernel_rfl) (by kernel_rfl)
  have h7 := @run_callFunc_extern Tryd.prog 64 _ (ReflectliteValue.methodAny (ReflectliteValue.valueError "reflectlite.Value.Type" 0) (fun t _ _ _ => ReflectliteType.toType t)) Tryd.func64 (by kernel_rfl) (by kernel_rfl) (by kernel_rfl) (by kernel_rfl)
  have h8 := @run_callFunc_extern Tryd.prog 65 _ (ReflectliteValue.method (ReflectliteValue.valueError "reflectlite.Value.IsNil" 0) ReflectliteValue.isNil) Tryd.func65 (by kernel_rfl) (by kernel_rfl) (by kernel_rfl) (by kernel_rfl)
  have h27 := @run_callFunc_extern Tryd.prog 84 _ (ReflectliteType.abiMethod fun t => do pure (.int .u8 (← Rtype.kind t))) Tryd.func84 (by kernel_rfl) (by kernel_rfl) (by kernel_rfl) (by kernel_rfl)
  have h37 := @run_callFunc_extern Tryd.prog 98 _ (ReflectliteType.method ReflectliteType.elem) Tryd.func98 (by kernel_rfl) (by kernel_rfl) (by kernel_rfl) (by kernel_rfl)
  have h38 := @run_callFunc_extern Tryd.prog 99 _ (ReflectliteType.relation "Implements" ReflectliteType.implements_) Tryd.func99 (by kernel_rfl) (by kernel_rfl) (by kernel_rfl) (by kernel_rfl)
  have h10 := @run_callFunc_extern Tryd.prog 67 _ ReflectliteType.typeOf Tryd.func67 (by kernel_rfl) (by kernel_rfl) (by kernel_rfl) (by kernel_rfl)
  have h35 := @run_callFunc_extern Tryd.prog 96 _ (ReflectliteType.relation "AssignableTo" ReflectliteType.assignableTo) Tryd.func96 (by kernel_rfl) (by kernel_rfl) (by kernel_rfl) (by kernel_rfl)
  have h11 := @run_callFunc_extern Tryd.prog 68 _ (ReflectliteValue.method (ReflectliteValue.valueError "reflectlite.Value.Elem" 0) ReflectliteValue.elem) Tryd.func68 (by kernel_rfl) (by kernel_rfl) (by kernel_rfl) (by kernel_rfl)
  have h12 := @run_callFunc_extern Tryd.prog 69 _ ReflectliteValue.set Tryd.func69 (by kernel_rfl) (by kernel_rfl) (by kernel_rfl) (by kernel_rfl)
  have tO := Tryd.typeOf25
  have tOA := Tryd.typeOfAt
  have aA := Tryd.assignableAt
  have t1 := Tryd.assertAt1
  have t2 := Tryd.assertAt2
  have mU := Tryd.methodUnwrap
  have mA := Tryd.methodAssignableTo
  have a25 := Tryd.assignable25
  have v25 := Tryd.valueOf25
  have f6 := Tryd.valueOf27
  have f7 := Tryd.type27
  have mK := Tryd.methodKind
  have mE := Tryd.methodElem
  have mI := Tryd.methodImplements
  have k27 := Tryd.kind27
  have k25 := Tryd.kind25
  have e27 := Tryd.elem27
  have i25 := Tryd.implements25
  have n8 := Tryd.isNil27 ⟨w.heap.size, 0, none⟩ t ((w.alloc (.cells #[.pointer (some t)] 129)).alloc (.cells #[.pointer (some ⟨2, 129, none⟩), .pointer (some ⟨w.heap.size, 0, none⟩), .int .u64 150] 132)) (by simp)
  have hlt : 1 < w.heap.size := by
    rcases Nat.lt_or_ge 1 w.heap.size with h | h
    · exact h
    · simp [World.cell?, Array.getElem?_eq_none h] at hg
  have hg2 : ((w.alloc (.cells #[.pointer (some t)] 129)).alloc (.cells #[.pointer (some ⟨2, 129, none⟩), .pointer (some ⟨w.heap.size, 0, none⟩), .int .u64 150] 132)).cell? ⟨1, 0, none⟩ = some (.iface 143 (.agg #[.pointer (some ⟨2, 45, none⟩)])) := by
    rw [World.cell?_alloc_lt _ _ ⟨1, 0, none⟩ (by simp; omega), World.cell?_alloc_lt _ _ ⟨1, 0, none⟩ hlt]; exact hg
  have htl : t.block < w.heap.size := by
    rcases Nat.lt_or_ge t.block w.heap.size with h | h
    · exact h
    · simp [World.cell?, Array.getElem?_eq_none h] at ht0
  have el := Tryd.elemV27 ⟨w.heap.size, 0, none⟩ t (((w.alloc (.cells #[.pointer (some t)] 129)).alloc (.cells #[.pointer (some ⟨2, 129, none⟩), .pointer (some ⟨w.heap.size, 0, none⟩), .int .u64 150] 132)).alloc (.cells #[.pointer (some ⟨2, 129, none⟩), .pointer (some ⟨w.heap.size, 0, none⟩), .int .u64 150] 132)) (by rw [World.cell?_alloc_lt _ _ ⟨w.heap.size, 0, none⟩ (by simp; omega)]; simp)
  have st := Tryd.set25 t ⟨w.heap.size + 1 + 1 + 1, 0, none⟩ e old ((((w.alloc (.cells #[.pointer (some t)] 129)).alloc (.cells #[.pointer (some ⟨2, 129, none⟩), .pointer (some ⟨w.heap.size, 0, none⟩), .int .u64 150] 132)).alloc (.cells #[.pointer (some ⟨2, 129, none⟩), .pointer (some ⟨w.heap.size, 0, none⟩), .int .u64 150] 132)).alloc (.cells #[.int .i64 e] 47))
    (by rw [World.cell?_alloc_at _ _ _ _ (by simp)]; rfl)
    (by rw [World.cell?_alloc_lt _ _ t (by simp; omega), World.cell?_alloc_lt _ _ t (by simp; omega), World.cell?_alloc_lt _ _ t (by simp; omega), World.cell?_alloc_lt _ _ t htl]; exact ht0)
    (by rw [World.frozen?_alloc_old _ _ t (by simp; omega), World.frozen?_alloc_old _ _ t (by simp; omega), World.frozen?_alloc_old _ _ t (by simp; omega), World.frozen?_alloc_old _ _ t (Nat.ne_of_lt htl)]; exact hf0)
  go_enter Tryd.func62, Tryd.ntmps62
  have cb : ∀ o1 o2 o3 : Obj, (((w.alloc o1).alloc o2).alloc o3).cell? ⟨b, 0, none⟩ = some (.int .i64 e) := fun o1 o2 o3 => by
    have hbl := (Array.getElem?_eq_some_iff.1 hbk).1
    rw [World.cell?_alloc_lt _ _ ⟨b, 0, none⟩ (by simp; omega), World.cell?_alloc_lt _ _ ⟨b, 0, none⟩ (by simp; omega), World.cell?_alloc_lt _ _ ⟨b, 0, none⟩ hbl]
    simp [World.cell?, hbk]
  go_wp2
  refine wp_loop_rounds 2 ?_
  rw [rounds_succ]
  go_wp2
  rw [rounds_succ]
  go_wp2
  go_ret
  exact ⟨rfl, rfl⟩
end Go.Proofs.YtfanolcjgaccpaaDoor

namespace Go.Proofs.YtfanolcjgaccpaaDoor
open Go Go.RowKit Go.Extern.Stop Go.Stop Go.Extern
set_option maxRecDepth 100000
set_option linter.unusedVariables false

set_option maxHeartbeats 800000 in
theorem tell_at (w : World) (c p : Int) (b : Nat) (hg : ErrType w) (hb : w.heap[b]? = some (.cells #[.int .i64 c, .int .i64 p] 121 (0, 0))) :
    Calls Tryd.prog 59 #[.iface 119 (.pointer (some ⟨b, 0, none⟩))] w fun e w' => e = .returned (.int .i64 c) ∧ Below w.heap.size w w' := by
  have hlt := hg.lt
  have hbl := (Array.getElem?_eq_some_iff.1 hb).1
  have hit := Lib.hid (as_at c p b ⟨w.heap.size, 0, none⟩ (.int .i64 0) (w.alloc (.cells #[.int .i64 0] 47)) ((cell_old (p := ⟨1, 0, none⟩) hlt).trans hg) (World.cell?_alloc_new _ _ _ 0) (World.frozen?_alloc_new _ _ _ _) (((Go.MapKept.heap_alloc w _).2 _ hbl).trans hb))
  clear hg hb
  go_enter Tryd.func59, Tryd.ntmps59
  go_wp2_with fail
  refine hit.out.mono ?_
  rintro e w1 ⟨rfl, hw1⟩
  have hB : Below w.heap.size w w1 := by
    rw [hw1]
    refine Below.setCell ?_ (by simp) _
    repeat (refine Below.alloc ?_ (by simp; try omega) _)
    exact Below.refl _ _
  have hx : w1.cell? ⟨w.heap.size, 0, none⟩ = some (.int .i64 c) := by
    rw [hw1]
    rw [World.cell?_setCell_same']
    rw [cell_old (by simp; omega), cell_old (by simp; omega), cell_old (by simp; omega), cell_old (by simp)]
    rw [World.cell?_alloc_new]
    rfl
  have HB := Lib.hid hB
  clear hB hw1 hit
  go_wp2
  go_ret
  exact ⟨rfl, HB.out⟩
theorem Tryd.assertPl1 (b : Nat) (w : World) : (Instr.typeAssert (.iface 119 (.pointer (some ⟨b, 0, none⟩))) 45 119 true).run Tryd.prog w = .ok (.tuple #[.pointer (some ⟨b, 0, none⟩), .bool true]) w := by kernel_rfl
theorem Tryd.assertPl2 (v : Value) (w : World) : (Instr.typeAssert (.iface 47 v) 45 119 true).run Tryd.prog w = .ok (.tuple #[.pointer none, .bool false]) w := by kernel_rfl
theorem Tryd.assertPl3 (v : Value) (w : World) : (Instr.typeAssert (.iface 47 v) 45 122 true).run Tryd.prog w = .ok (.tuple #[.nilIface, .bool false]) w := run_typeAssert_lacksB Tryd.underlying122 (by kernel_rfl) (by kernel_rfl) _ _ w
set_option maxHeartbeats 4000000 in
theorem place_at (w : World) (c p : Int) (b : Nat) (hg : ErrType w) (hb : w.heap[b]? = some (.cells #[.int .i64 c, .int .i64 p] 121 (0, 0))) :
    Calls Tryd.prog 52 #[.iface 119 (.pointer (some ⟨b, 0, none⟩))] w fun e w' => e = .returned (.tuple #[.int .i64 c, .int .i64 p]) ∧ Below w.heap.size w w' := by
  have HT := Lib.hid (tell_at w c p b hg hb)
  have a1 := Tryd.assertPl1
  have HBK := Lib.hid hb
  clear hg hb
  go_enter Tryd.func52, Tryd.ntmps52
  go_wp2_with fail
  refine HT.out.mono ?_
  rintro e w1 ⟨rfl, hB⟩
  have b1 : w1.cell? ⟨b, 1, none⟩ = some (.int .i64 p) := by
    have h := (hB.block b (Array.getElem?_eq_some_iff.1 HBK.out).1).trans HBK.out
    simp [World.cell?, h]
  have HB := Lib.hid hB
  clear hB HT
  go_wp2_with fail
  refine wp_loop_rounds 1 ?_
  rw [rounds_succ]
  go_wp2_with fail
  refine wp_region_plan [(true, 0), (true, 1), (true, 2), (true, 3), (true, 4), (true, 5)] [6] (fun W => W.cell? ⟨b, 1, none⟩ = some (.int .i64 p)) (by kernel_rfl) (by kernel_rfl) (fun _ _ d _ _ h => by cases d <;> exact h) b1 (fun hS0 => ?_)
  simp only [planOps, List.filterMap_cons, List.filterMap_nil, List.getElem?_toArray, List.getElem?_cons_zero, List.getElem?_cons_succ, Option.map_some]
  iterate 6
    first
      | (refine wpPlan_take ?_ (by rfl) (fun w' hS' => ?_) ?_; rotate_left; (have s0 := hS'; go_simp; first | done | with_reducible rfl); simp only [Act.put, List.setIfInBounds_toArray, List.set_cons_zero, List.set_cons_succ])
      | (refine wpPlan_skip (by rfl) ?_; simp only [Act.put, List.setIfInBounds_toArray, List.set_cons_zero, List.set_cons_succ])
  refine wpPlan_end ?_
  go_wp2
  go_ret2
  exact ⟨rfl, HB.out.drew⟩
set_option maxHeartbeats 4000000 in
theorem place_errno (w : World) (c : Int) (hc : c ≠ 0) (hg : ErrType w) :
    Calls Tryd.prog 52 #[.iface 47 (.int .i64 c)] w fun e w' => e = .returned (.tuple #[.int .i64 c, .int .i64 (-1)]) ∧ Below w.heap.size w w' := by
  have ht := tell_any w c hg
  rw [show errV c = .iface 47 (.int .i64 c) by unfold errV; rw [if_neg hc]] at ht
  have HT := Lib.hid ht
  have a2 := Tryd.assertPl2
  have a3 := Tryd.assertPl3
  clear hg ht hc
  go_enter Tryd.func52, Tryd.ntmps52
  go_wp2_with fail
  refine HT.out.mono ?_
  rintro e w1 ⟨rfl, hB⟩
  have HB := Lib.hid hB
  clear hB HT
  go_wp2_with fail
  refine wp_loop_rounds 1 ?_
  rw [rounds_succ]
  go_wp2
  go_ret2
  exact ⟨rfl, HB.out⟩
set_option maxHeartbeats 4000000 in
/-- an error is this one, at this place -/
theorem at_any (w : World) (v : Value) (c p : Int)
    (HP : Hid (∀ W, Below w.heap.size w W → Calls Tryd.prog 52 #[v] W fun e w' => e = .returned (.tuple #[.int .i64 c, .int .i64 p]) ∧ Below W.heap.size W w')) :
    Calls Tryd.prog 37 #[v, .agg #[.int .i64 c, .int .i64 p]] w fun e w' => e = .returned (.bool true) ∧ Below w.heap.size w w' := by
  have hb : Below w.heap.size w (w.alloc (.cells #[.int .i64 c, .int .i64 p] 81)) := (Below.refl _ _).alloc (Nat.le_refl _) _
  have HB := Lib.hid hb
  clear hb
  go_enter Tryd.func37, Tryd.ntmps37
  go_wp2_with fail
  refine (HP.out _ HB.out).mono ?_
  rintro e w1 ⟨rfl, hB⟩
  have hsz : w.heap.size < (w.alloc (.cells #[.int .i64 c, .int .i64 p] 81)).heap.size := by simp
  have z0 : w1.cell? ⟨w.heap.size, 0, none⟩ = some (.int .i64 c) := (World.cell?_of_block (hB.block w.heap.size hsz)).trans (by simp)
  have z1 : w1.cell? ⟨w.heap.size, 1, none⟩ = some (.int .i64 p) := (World.cell?_of_block (hB.block w.heap.size hsz)).trans (by simp)
  have HB1 := Lib.hid (HB.out.trans (hB.mono HB.out.size))
  clear hB hsz
  go_wp2
  go_ret
  exact ⟨rfl, HB1.out⟩
end Go.Proofs.YtfanolcjgaccpaaDoor

namespace Go.Proofs.YtfanolcjgaccpaaDoor
open Go Go.RowKit Go.Extern.Stop Go.Stop Go.Extern
set_option maxRecDepth 100000
set_option linter.unusedVariables false

theorem bare_res {w' : World} {tmps : Array Value} {cb : Nat} {x y : Value} (h3 : tmps.getD 2 undef = .pointer (some ⟨cb, 0, none⟩)) (hx : w'.cell? ⟨cb, 0, none⟩ = some x) (hy : w'.cell? ⟨cb, 1, none⟩ = some y) :
    (results Tryd.f38 tmps).run Tryd.prog w' = .ok (.agg #[x, y]) w' := by
  have h3' : tmps[2]?.getD undef = .pointer (some ⟨cb, 0, none⟩) := by simpa using h3
  simp [results, go_sem, h3', hx, hy]
set_option maxHeartbeats 4000000 in
theorem bare_any (w : World) (c : Int) :
    Calls Tryd.prog 38 #[.int .i64 c] w fun e w' => e = .returned (.agg #[.int .i64 c, .int .i64 (-1)]) ∧ Below w.heap.size w w' := by
  have hb : Below w.heap.size w (w.alloc (.cells #[.int .i64 c, .int .i64 (-1)] 81)) := (Below.refl _ _).alloc (Nat.le_refl _) _
  have HB := Lib.hid hb
  clear hb
  go_enter Tryd.func38, Tryd.ntmps38
  go_wp2
  refine bodyPost_ret (bare_res (cb := w.heap.size) (x := .int .i64 c) (y := .int .i64 (-1)) rfl (by simp) (by simp)) rfl ?_
  exact ⟨rfl, HB.out⟩
set_option maxHeartbeats 4000000 in
theorem place_nil (w : World) (hg : ErrType w) :
    Calls Tryd.prog 52 #[.nilIface] w fun e w' => e = .returned (.tuple #[.int .i64 0, .int .i64 (-1)]) ∧ Below w.heap.size w w' := by
  have HT := Lib.hid (tell_any w 0 hg)
  clear hg
  go_enter Tryd.func52, Tryd.ntmps52
  go_wp2_with fail
  refine HT.out.mono ?_
  rintro e w1 ⟨rfl, hB⟩
  have HB := Lib.hid hB
  clear hB HT
  go_wp2_with fail
  refine wp_loop_rounds 1 ?_
  rw [rounds_succ]
  go_wp2
  go_ret2
  exact ⟨rfl, HB.out⟩
theorem place_errV (w : World) (c : Int) (hg : ErrType w) :
    Calls Tryd.prog 52 #[errV c] w fun e w' => e = .returned (.tuple #[.int .i64 c, .int .i64 (-1)]) ∧ Below w.heap.size w w' := by
  by_cases hc : c = 0
  · subst hc; exact place_nil w hg
  · have := place_errno w c hc hg
    rwa [show errV c = .iface 47 (.int .i64 c) by unfold errV; rw [if_neg hc]]
set_option maxHeartbeats 4000000 in
theorem bare_ok (w : World) (c : Int) (hg : ErrType w) :
    Calls Tryd.prog 7 #[errV c, .int .i64 c] w fun e w' => e = .returned (.bool true) ∧ Below w.heap.size w w' := by
  have HA := Lib.hid (fun w1 (hB : Below w.heap.size w w1) => at_any w1 (errV c) c (-1) (Lib.hid fun W hW => place_errV W c ((hg.below hB).below hW)))
  generalize errV c = v at *
  have HB0 := Lib.hid (bare_any w c)
  clear hg
  go_enter Tryd.func7, Tryd.ntmps7
  go_wp2_with fail
  refine HB0.out.mono ?_
  rintro e w1 ⟨rfl, hB⟩
  have HA1 := Lib.hid (HA.out w1 hB)
  have HB := Lib.hid hB
  clear hB HA HB0
  go_wp2_with fail
  refine HA1.out.mono ?_
  rintro e w2 ⟨rfl, hB⟩
  have HB2 := Lib.hid (HB.out.trans (hB.mono HB.out.size))
  clear hB
  go_wp2
  go_ret
  exact ⟨rfl, HB2.out⟩
end Go.Proofs.YtfanolcjgaccpaaDoor

namespace Go.Proofs.YtfanolcjgaccpaaDoor
open Go

section
variable {P : Program} {ops : Array Oper} {md : Region.Mode} {Q : Exit → Act → World → Prop} {S : World → Prop} {t : Nat}

theorem getD_setT {m : Array Bool} {i j : Nat} (h : i < m.size) : (m.setIfInBounds i true).getD j false = if i = j then true else m.getD j false := by
  by_cases e : i = j
  · subst e; rw [if_pos rfl]; simp [h]
  · rw [if_neg e, getD_set_ne false e]

def wpAnyT (P : Program) (md : Region.Mode) (ops : Array Oper) (Q : Exit → Act → World → Prop) (S : World → Prop) (t : Nat) : Nat → Array Bool → Act → World → Prop
  | 0, listed, a, w => Region.ready md ops listed = [] ∧ Q .normal a w
  | fuel + 1, listed, a, w =>
    (Region.ready md ops listed = [] → Q .normal a w) ∧
    ∀ i ∈ Region.ready md ops listed, wpOp P ops Q i (fun a' w' => ((listed.setIfInBounds i true).getD t false = false → S w') ∧ wpAnyT P md ops Q S t fuel (listed.setIfInBounds i true) a' w') a w

theorem wpAny_of_T : ∀ (fuel : Nat) (listed : Array Bool) (a : Act) (w : World), wpAnyT P md ops Q S t fuel listed a w → wpAny P md ops Q fuel listed a w
  | 0, _, _, _, h => h
  | fuel + 1, _, _, _, h => ⟨h.1, fun i hi => wpOp_mono (fun a' w' h' => wpAny_of_T fuel _ a' w' h'.2) (h.2 i hi)⟩

theorem wpAnyT_first {i : Nat} {oi : Oper} {v : Value} {S' : World → Prop} (hi : ops[i]? = some oi) (hsel : ∀ (j : Nat) (o : Oper) cs b, ops[j]? = some o → o.op ≠ .select cs b)
    (hQ : ∀ c a w, Q (.panic c) (a.put oi.dst v) w → Q (.panic c) a w) (hit : i ≠ t) :
    ∀ (fuel : Nat) (listed : Array Bool) (a : Act) (w : World), listed.size = ops.size →
      (∀ j oj, ops[j]? = some oj → j ≠ i → listed.getD j true = false → (∀ e ∈ oj.after, Region.binds md e = true → e.on ≠ i) → oi.apart ops oj = true) →
      i ∈ Region.ready md ops listed → YieldsIf P ops S' oi v a → ((waits md ops t i = true ∧ listed.getD t false = false ∧ S' = S) ∨ S' = fun _ => True) → (listed.getD t false = false → S w) →
      wpAnyT P md ops Q S t fuel (listed.setIfInBounds i true) (a.put oi.dst v) w → wpAnyT P md ops Q S t (fuel + 1) listed a w := by
  have key : ∀ (listed : Array Bool) (w : World), ((waits md ops t i = true ∧ listed.getD t false = false ∧ S' = S) ∨ S' = fun _ => True) → (listed.getD t false = false → S w) → S' w := by
    intro listed w h1 h2
    rcases h1 with ⟨_, h, rfl⟩ | rfl
    · exact h2 h
    · trivial
  have same : ∀ (listed : Array Bool), (listed.setIfInBounds i true).getD t false = listed.getD t false := fun l => getD_set_ne false hit
  intro fuel
  induction fuel with
  | zero =>
    intro listed a w _ _ hr hy h1 hS H
    refine ⟨fun h => (by rw [h] at hr; cases hr), fun j hj => ?_⟩
    by_cases hji : j = i
    · subst hji; exact hy.wpOp hi (key _ _ h1 hS) ⟨fun h => hS ((same listed).symm.trans h), H⟩
    · have := ready_mono hj hji
      rw [H.1] at this
      cases this
  | succ fuel ih =>
    intro listed a w hsz hfree hr hy h1 hS H
    refine ⟨fun h => (by rw [h] at hr; cases hr), fun j hj => ?_⟩
    by_cases hji : j = i
    · subst hji; exact hy.wpOp hi (key _ _ h1 hS) ⟨fun h => hS ((same listed).symm.trans h), H⟩
    · have h2 := H.2 j (ready_mono hj hji)
      obtain ⟨hjun, oj, hoj, hall⟩ := mem_ready.1 hj
      have hun : listed.getD i true = false := (mem_ready.1 hr).1
      have hunf : listed.getD i false = false := by
        rcases Nat.lt_or_ge i listed.size with h' | h'
        · simp [h'] at hun ⊢; exact hun
        · simp [h']
      have hnot : ∀ e ∈ oj.after, Region.binds md e = true → e.on ≠ i := fun e he hb heq => by
        have h1 := hall e he hb
        rw [heq, hunf] at h1
        cases h1
      have hjt : waits md ops t i = true → j ≠ t := fun hw e => by
        subst e
        have := waits_spec hw hj
        rw [hunf] at this
        cases this
      have h3 := wpOp_putIf hoj (hfree j oj hoj hji hjun hnot) (fun cs b => hsel i oi cs b hi) (fun cs b => hsel j oj cs b hoj) hQ hy h2
      have hfree' : ∀ k ok, ops[k]? = some ok → k ≠ i → (listed.setIfInBounds j true).getD k true = false →
          (∀ e ∈ ok.after, Region.binds md e = true → e.on ≠ i) → oi.apart ops ok = true := fun k ok hk hki hun hno => by
        refine hfree k ok hk hki ?_ hno
        by_cases hjk : j = k
        · subst hjk; exact hjun
        · rw [getD_set_ne true hjk] at hun; exact hun
      refine wpOp_mono (fun a' w' h4 => ?_) h3
      have hb : (listed.setIfInBounds j true).getD t false = false → S w' := fun h => h4.2.1 (by rw [set_comm_true, getD_set_ne false hit]; exact h)
      refine ⟨hb, ih (listed.setIfInBounds j true) a' w' (by simpa using hsz) hfree' (ready_mono hr (Ne.symm hji)) h4.1 ?_ hb ?_⟩
      · rcases h1 with ⟨q1, q2, q3⟩ | q
        · exact .inl ⟨q1, by rw [getD_set_ne false (hjt q1)]; exact q2, q3⟩
        · exact .inr q
      · rw [Array.setIfInBounds_comm _ _ hji]
        exact h4.2.2

inductive Pl
  | nil
  | take (i : Nat) (r : Pl)
  | go (i : Nat) (r : Pl)
  | two (i : Nat) (ri : Pl) (j : Nat) (rj : Pl)
def Pl.len : Pl → Nat
  | .nil => 0
  | .take _ r => r.len + 1
  | .go _ r => r.len + 1
  | .two _ r _ _ => r.len + 1

/-- What is walked. -/
def wpPl (P : Program) (md : Region.Mode) (ops : Array Oper) (Q : Exit → Act → World → Prop) (S : World → Prop) (t : Nat) : Pl → Bool → Act → World → Prop
  | .nil, _, a, w => Q .normal a w
  | .take i r, b, a, w => ∃ o v, ops[i]? = some o ∧ ((b = false ∧ waits md ops t i = true ∧ YieldsIf P ops S o v a) ∨ YieldsIf P ops (fun _ => True) o v a) ∧ wpPl P md ops Q S t r b (a.put o.dst v) w
  | .go i r, b, a, w => wpOp P ops Q i (fun a' w' => ((b || i == t) = false → S w') ∧ wpPl P md ops Q S t r (b || i == t) a' w') a w
  | .two i ri j rj, b, a, w => wpOp P ops Q i (fun a' w' => ((b || i == t) = false → S w') ∧ wpPl P md ops Q S t ri (b || i == t) a' w') a w ∧ wpOp P ops Q j (fun a' w' => ((b || j == t) = false → S w') ∧ wpPl P md ops Q S t rj (b || j == t) a' w') a w

def plB (md : Region.Mode) (ops : Array Oper) (t : Nat) : Pl → Array Bool → Bool
  | .nil, listed => (Region.ready md ops listed).isEmpty
  | .take i r, listed => (Region.ready md ops listed).contains i && Region.free md ops listed i && decide (i ≠ t) && plB md ops t r (listed.setIfInBounds i true)
  | .go i r, listed => decide (Region.ready md ops listed = [i]) && plB md ops t r (listed.setIfInBounds i true)
  | .two i ri j rj, listed => decide (Region.ready md ops listed = [i, j]) && decide (ri.len = rj.len) && plB md ops t ri (listed.setIfInBounds i true) && plB md ops t rj (listed.setIfInBounds j true)

theorem wpPl_sound (hsel : Region.noSelect ops = true) (hQ : ∀ c a d v w, Q (.panic c) (Act.put a d v) w → Q (.panic c) a w) :
    ∀ (l : Pl) (listed : Array Bool) (b : Bool) (a : Act) (w : World), listed.size = ops.size → listed.getD t false = b → plB md ops t l listed = true → (b = false → S w) → wpPl P md ops Q S t l b a w → wpAnyT P md ops Q S t l.len listed a w
  | .nil, listed, b, a, w, _, _, hB, _, h => ⟨by simpa [plB] using hB, h⟩
  | .take i r, listed, b, a, w, hsz, hb, hB, hS, h => by
    simp only [plB, Bool.and_eq_true, decide_eq_true_eq] at hB
    obtain ⟨⟨⟨hr, hf⟩, hit⟩, hB'⟩ := hB
    obtain ⟨o, v, ho, hy, h'⟩ := h
    have hrec := wpPl_sound hsel hQ r (listed.setIfInBounds i true) b _ w (by simpa using hsz) ((getD_set_ne false hit).trans hb) hB' hS h'
    rcases hy with ⟨h0, hw, hy⟩ | hy
    · exact wpAnyT_first ho (Region.noSelect_spec hsel) (fun c a w => hQ c a _ _ w) hit r.len listed a w hsz (Region.free_spec ho hf) (by simpa using hr) hy (.inl ⟨hw, hb.trans h0, rfl⟩) (fun h => hS (hb.symm.trans h)) hrec
    · exact wpAnyT_first ho (Region.noSelect_spec hsel) (fun c a w => hQ c a _ _ w) hit r.len listed a w hsz (Region.free_spec ho hf) (by simpa using hr) hy (.inr rfl) (fun h => hS (hb.symm.trans h)) hrec
  | .go i r, listed, b, a, w, hsz, hb, hB, hS, h => by
    simp only [plB, Bool.and_eq_true, decide_eq_true_eq] at hB
    obtain ⟨hr, hB'⟩ := hB
    obtain ⟨_, o, ho, _⟩ := mem_ready.1 (show i ∈ Region.ready md ops listed by rw [hr]; simp)
    have hil : i < listed.size := by rw [hsz]; exact (Array.getElem?_eq_some_iff.1 ho).1
    have hbt : (listed.setIfInBounds i true).getD t false = (b || i == t) := by
      rw [getD_setT hil, hb]
      by_cases e : i = t
      · subst e; simp
      · simp [e]
    refine ⟨fun h0 => (by rw [h0] at hr; cases hr), fun k hk => ?_⟩
    rw [hr] at hk
    have hki : k = i := by simpa using hk
    subst hki
    exact wpOp_mono (fun a' w' h' => ⟨fun hh => h'.1 (hbt.symm.trans hh), wpPl_sound hsel hQ r _ _ a' w' (by simpa using hsz) hbt hB' h'.1 h'.2⟩) h
  | .two i ri j rj, listed, b, a, w, hsz, hb, hB, hS, h => by
    simp only [plB, Bool.and_eq_true, decide_eq_true_eq] at hB
    obtain ⟨⟨⟨hr, hlen⟩, hB1⟩, hB2⟩ := hB
    obtain ⟨_, o1, ho1, _⟩ := mem_ready.1 (show i ∈ Region.ready md ops listed by rw [hr]; simp)
    obtain ⟨_, o2, ho2, _⟩ := mem_ready.1 (show j ∈ Region.ready md ops listed by rw [hr]; simp)
    have hil : i < listed.size := by rw [hsz]; exact (Array.getElem?_eq_some_iff.1 ho1).1
    have hjl : j < listed.size := by rw [hsz]; exact (Array.getElem?_eq_some_iff.1 ho2).1
    have hbt : ∀ k, k < listed.size → (listed.setIfInBounds k true).getD t false = (b || k == t) := fun k hk => by
      rw [getD_setT hk, hb]
      by_cases e : k = t
      · subst e; simp
      · simp [e]
    refine ⟨fun h0 => (by rw [h0] at hr; cases hr), fun k hk => ?_⟩
    rw [hr] at hk
    have hk' : k = i ∨ k = j := by simpa using hk
    rcases hk' with rfl | rfl
    · exact wpOp_mono (fun a' w' h' => ⟨fun hh => h'.1 ((hbt _ hil).symm.trans hh), wpPl_sound hsel hQ ri _ _ a' w' (by simpa using hsz) (hbt _ hil) hB1 h'.1 h'.2⟩) h.1
    · show wpOp P ops Q k (fun a' w' => _ ∧ wpAnyT P md ops Q S t ri.len _ a' w') a w
      rw [hlen]
      exact wpOp_mono (fun a' w' h' => ⟨fun hh => h'.1 ((hbt _ hjl).symm.trans hh), wpPl_sound hsel hQ rj _ _ a' w' (by simpa using hsz) (hbt _ hjl) hB2 h'.1 h'.2⟩) h.2

def treeB (md : Region.Mode) (ops : Array Oper) (t : Nat) (pl : Pl) : Bool :=
  Region.noSelect ops && plB md ops t pl (Array.replicate ops.size false) && decide (pl.len = ops.size)

/-- THE REGION. -/
theorem wp_region_tree {id : Nat} {l : List Oper} {a : Act} {w : World} (pl : Pl) (t : Nat) (S : World → Prop) (hm : P.follows .mixedOrders = true)
    (hB : treeB .any l.toArray t pl = true) (hQ : ∀ c a d v w, Q (.panic c) (Act.put a d v) w → Q (.panic c) a w) (hS : S w.drew)
    (h : wpPl P .any l.toArray Q S t pl false a w.drew) : (Code.region id l.toArray true).wp P Q a w := by
  simp only [treeB, Bool.and_eq_true, decide_eq_true_eq] at hB
  obtain ⟨⟨hsel, hplan⟩, hlen⟩ := hB
  refine wp_region_any hm ?_
  have key := wpAny_of_T _ _ _ _ (wpPl_sound (P := P) (md := .any) (Q := Q) (S := S) (t := t) hsel hQ pl (Array.replicate l.toArray.size false) false a w.drew (by simp) (getD_repl _ _) hplan (fun _ => hS) h)
  rw [hlen] at key
  exact key

theorem wpPl_takeS {o : Oper} {i : Nat} {r : Pl} {a : Act} {w : World} (v : Value) (ho : ops[i]? = some o) (hwt : waits md ops t i = true)
    (hw : Region.wanted o (yielded ops a.tmps) = true) (hy : ∀ w', S w' → (execOp a.eval o).run P w' = .ok (.value v) w') (h : wpPl P md ops Q S t r false (a.put o.dst v) w) : wpPl P md ops Q S t (.take i r) false a w :=
  ⟨o, v, ho, .inl ⟨rfl, hwt, .inl ⟨hw, hy⟩⟩, h⟩
theorem wpPl_take {o : Oper} {i : Nat} {r : Pl} {b : Bool} {a : Act} {w : World} (v : Value) (ho : ops[i]? = some o)
    (hw : Region.wanted o (yielded ops a.tmps) = true) (hy : ∀ w', (execOp a.eval o).run P w' = .ok (.value v) w') (h : wpPl P md ops Q S t r b (a.put o.dst v) w) : wpPl P md ops Q S t (.take i r) b a w :=
  ⟨o, v, ho, .inr (.inl ⟨hw, fun w' _ => hy w'⟩), h⟩
theorem wpPl_go {o : Oper} {i : Nat} {r : Pl} {a : Act} {w : World} (ho : ops[i]? = some o) (hit : (i == t) = false) (hw : Region.wanted o (yielded ops a.tmps) = true)
    (h : ∀ K : Act → World → Prop, (∀ a' w', S w' → wpPl P md ops Q S t r false a' w' → K a' w') → o.wp P a w K Q) : wpPl P md ops Q S t (.go i r) false a w := by
  unfold wpPl wpOp
  simp only [ho]
  rw [if_pos hw]
  exact .inl (h _ fun a' w' h1 h2 => ⟨fun _ => h1, by simpa [hit] using h2⟩)
theorem wpPl_late {o : Oper} {i : Nat} {r : Pl} {b : Bool} {a : Act} {w : World} (ho : ops[i]? = some o) (hit : (b || i == t) = true) (hw : Region.wanted o (yielded ops a.tmps) = true)
    (h : ∀ K : Act → World → Prop, (∀ a' w', wpPl P md ops Q S t r true a' w' → K a' w') → o.wp P a w K Q) : wpPl P md ops Q S t (.go i r) b a w := by
  unfold wpPl wpOp
  simp only [ho]
  rw [if_pos hw]
  exact .inl (h _ fun a' w' h2 => ⟨fun h3 => (by rw [hit] at h3; cases h3), by rw [hit]; exact h2⟩)
theorem wpPl_two {i j : Nat} {ri rj : Pl} {b : Bool} {a : Act} {w : World} (h1 : wpPl P md ops Q S t (.go i ri) b a w) (h2 : wpPl P md ops Q S t (.go j rj) b a w) : wpPl P md ops Q S t (.two i ri j rj) b a w := ⟨h1, h2⟩
theorem wpPl_nil {b : Bool} {a : Act} {w : World} (h : Q .normal a w) : wpPl P md ops Q S t .nil b a w := h
end
end Go.Proofs.YtfanolcjgaccpaaDoor
