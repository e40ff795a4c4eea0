/- The document's parser: single. The document's parser: statement: too deep, braces, the empty one. -/
import Derived.Test.YtgmnfgljkocnpaaGreatDoorJ01
import Derived.Test.YtgmnfgljkocnpaaGreatDoorJ36
namespace Go.Proofs.YtgmnfgljkocnpaaGreatDoor
open Go Go.RowKit Go.Maps
set_option maxRecDepth 100000
set_option maxHeartbeats 20000000
set_option linter.unusedVariables false
def unS : List (ByteArray × Int) := [(Z4y, 32), (Z1j, 33), (Z1u, 34)]
def unE : DataW Unit := litD unS
theorem Zji : unE = .map [(.string Z4y.data.toList, .lit (.int .i64 32)), (.string Z1u.data.toList, .lit (.int .i64 34)), (.string Z1j.data.toList, .lit (.int .i64 33))] := by kernel_rfl
theorem Zj9 {kl : Lit} (h : Maps.has unE kl = true) : ∃ x ∈ unS, kl = .string x.1.data.toList := by
 rw [Zji] at h;obtain ⟨p, hp, hk⟩ := List.any_eq_true.1 h;have e := WideAt.sameKey_eq hk;simp only [List.mem_cons, List.not_mem_nil, or_false] at hp;rcases hp with rfl | rfl | rfl;·exact ⟨(Z4y, 32), by simp [unS], e.symm⟩
 ·exact ⟨(Z1u, 34), by simp [unS], e.symm⟩
 ·exact ⟨(Z1j, 33), by simp [unS], e.symm⟩
theorem Zjk {x : ByteArray × Int} (h : x ∈ unS) : Maps.has unE (.string x.1.data.toList) = true ∧ unE.atKey (.string x.1.data.toList) (.lit (.int .i64 0)) = .lit (.int .i64 x.2) := by
 simp only [unS, List.mem_cons, List.not_mem_nil, or_false] at h;rcases h with rfl | rfl | rfl <;> exact ⟨by kernel_rfl, by kernel_rfl⟩
theorem Z2a {s s' : ByteArray} {σ : RS} (h : Zg s σ = true) (hn : s ≠ s') : Zg s' σ = false := by
 have := Z6k (Z2l h) hn;simp [Zg, this]
theorem Zje {x : ByteArray × Int} {σ : RS} (h : x ∈ unS) (hx : Zg x.1 σ = true) : Z5o σ = x.2 ∧ x.2 ≠ 0 := by
 simp only [unS, List.mem_cons, List.not_mem_nil, or_false] at h;rcases h with rfl | rfl | rfl;·exact ⟨by unfold Z5o; rw [if_pos hx], by decide⟩
 ·exact ⟨by unfold Z5o; rw [Z2a hx (s' := Z4y) (by decide)]; simp only at hx; simp [hx], by decide⟩
 ·exact ⟨by unfold Z5o; rw [Z2a hx (s' := Z4y) (by decide), Z2a hx (s' := Z1j) (by decide)]; simp only at hx; simp [hx], by decide⟩
theorem Zil {σ : RS} (h : ∀ x ∈ unS, Zg x.1 σ = false) : Z5o σ = 0 := by
 have h1 := h (Z4y, 32) (by simp [unS]); have h2 := h (Z1j, 33) (by simp [unS]); have h3 := h (Z1u, 34) (by simp [unS]);simp only at h1 h2 h3;simp [Z5o, h1, h2, h3]
theorem Zk {w : World} {C : QC} {σ : RS} (h : QS w C σ) (s : ByteArray) (hs : Zg s σ = false) : Calls Tryz.prog 51 #[.pointer (some ⟨C.rb, 0, none⟩), .string s] w fun e w' =>
 e = .returned (.bool false) ∧ Below w.heap.size w w' := by
 have HN := Zd h s;rw [hs] at HN;have HN := lh HN;clear h hs;go_enter Tryz.func51, Tryz.ntmps51
 go_wp2_with fail
 refine HN.out.mono ?_;rintro e w1 ⟨rfl, hB1⟩;have HB := lh hB1;clear hB1;go_wp2;go_ret;exact ⟨rfl, HB.out⟩
theorem Z7y {P : Program} (w : World) (base : Nat) (t ty e : TypeId) (i : TypeInfo) (size : Nat) (ht : P.underlying t = some (.slice e)) (hi : P.info? e = some i)
 (v : Value) (n : Nat) (xs : List Value) (hown : w.ownsRow base e size v n xs) (p : Option Addr) (c : Nat) :
 (Builtin.append_ #[t, t] ty #[v, .slice p 0 c]).run P w = .ok v w := by
 rcases hown.2 with ⟨rfl, rfl⟩ | ⟨g, cap, cur, rfl, _, _, hnc, _⟩;·cases p <;> simp [Builtin.append_, run_underlying ht, sizeOf, typeInfo, hi, Builtin.lenOf, Builtin.firstCells, loadCells, loadCellsFrom, Result.andThen]
 ·cases p <;> simp [Builtin.append_, run_underlying ht, sizeOf, typeInfo, hi, Builtin.lenOf, Builtin.firstCells, hnc, storeCells, loadCells, loadCellsFrom, Result.andThen]
theorem Z6d {P : Program} {w : World} {ops : Array Oper} {rest : List Oper} {o : Oper} {a : Act} {Q : Exit → Act → World → Prop} (hgd : o.guard = none) (s x : Operand) (t : TypeId)
 (ho : o.op = .call { callee := .builtin .append, args := #[s, x], argTypes := #[t, t] })
 (base : Nat) (e : TypeId) (i : TypeInfo) (size : Nat) (ht : P.underlying t = some (.slice e)) (hi : P.info? e = some i)
 (v : Value) (n : Nat) (xs : List Value) (hs : a.eval s = v) (hown : w.ownsRow base e size v n xs) (p : Option Addr) (c : Nat) (hx : a.eval x = .slice p 0 c)
 (h : wpList P ops Q rest (a.put o.dst v) w) : wpList P ops Q (o :: rest) a w := by
 refine wpList_plain hgd fun K hK => ?_;have hrun := Z7y (P := P) w base t o.type e i size ht hi v n xs hown p c;unfold Oper.wp;simp [execOp, ho, resolve, invoke, builtin, hs, hx, hrun, Result.andThen];exact hK _ _ h
section
variable {w0 w w2 wA : World} {B rb : Nat} {v : Value} {kids ks' : List ATree} {ts ts' : List Tree}
theorem KidsAt.app (h : KidsAt w0 B w kids ts) (hA : ∀ x ∈ Zv kids, x < wA.heap.size) (k : KidsAt wA B w ks' ts') (h0 : w0.heap.size ≤ wA.heap.size) : KidsAt w0 B w (kids ++ ks') (ts ++ ts') := by
 refine ⟨by rw [Z58, h.tree, k.tree], fun x hx => ?_, ?_, fun x hx => ?_⟩
 ·rcases List.mem_append.1 hx with hx | hx;·exact h.at' x hx
  ·exact k.at' x hx
 ·rw [Z1e, List.nodup_append];exact ⟨h.nodup, k.nodup, fun x hx y hy e => by have h1 := hA x hx; have h2 := k.new y hy; omega⟩
 ·rw [Z1e, List.mem_append] at hx;rcases hx with hx | hx;·exact h.new x hx
  ·have := k.new x hx; omega
theorem ListAt.pushL {g cap : Nat} (L : ListAt w0 B w v kids ts) (hLA : ∀ x ∈ Zv kids, x < wA.heap.size) (K : KidsAt wA B w ks' ts') (hvK : ∀ x, v.ownBlock = some x → x ∉ Zv ks') (h0 : w0.heap.size ≤ wA.heap.size)
 (hg : w.grownBy w2 v.ownBlock) (hown : w2.ownsRow B 22 1 (.slice (some ⟨g, 0, none⟩) (kids.length + ks'.length) cap) (kids.length + ks'.length) (kids.map ATree.ptr ++ ks'.map ATree.ptr))
 (hat : v.ownBlock = some g ∨ w.heap.size ≤ g) (hgl : g < w2.heap.size) (hF : RFr w0 w rb) :
 ListAt w0 B w2 (.slice (some ⟨g, 0, none⟩) (kids.length + ks'.length) cap) (kids ++ ks') (ts ++ ts') ∧ (∀ x, x < w.heap.size → v.ownBlock ≠ some x → w2.heap[x]? = w.heap[x]?) ∧ RFr w0 w2 rb := by
 have far : ∀ x, x < w.heap.size → v.ownBlock ≠ some x → w2.heap[x]? = w.heap[x]? := fun x hx hn => hg.block x hx (fun e => hn e.symm);have hgk : g ∉ Zv kids := fun hm => by
  rcases hat with h | h;·exact (L.own g h).2.2 hm
  ·have := (L.ks.new g hm).2; omega
 have hga : g ∉ Zv ks' := fun hm => by
  rcases hat with h | h;·exact hvK g h hm
  ·have := (K.new g hm).2; omega
 have hg0 : w0.heap.size ≤ g := by
  rcases hat with h | h;·exact (L.own g h).1
  ·have := hF.size; omega
 have hkeep : ∀ x ∈ Zv kids, w2.heap[x]? = w.heap[x]? := fun x hx => far x (L.ks.new x hx).2 fun e => (L.own x e).2.2 hx;have hkeepA : ∀ x ∈ Zv ks', w2.heap[x]? = w.heap[x]? := fun x hx => far x (K.new x hx).2 fun e => hvK x e hx;have hs := hg.size;have KK := L.ks.app hLA K h0;refine ⟨⟨⟨KK.tree, fun x hx => ?_, KK.nodup, fun x hx => ?_⟩, ?_, fun g' hg' => ?_⟩, far, ⟨?_, ?_, ?_, ?_, ?_⟩⟩
 ·refine (KK.at' x hx).keepB fun y hy => ?_;rcases List.mem_append.1 hx with hx | hx;·exact hkeep y (by rw [Z0v]; exact List.mem_flatMap.2 ⟨x, hx, hy⟩)
  ·exact hkeepA y (by rw [Z0v]; exact List.mem_flatMap.2 ⟨x, hx, hy⟩)
 ·have := KK.new x hx; omega
 ·rw [List.length_append, List.map_append]; exact hown
 ·simp only [Value.ownBlock, Option.some.injEq] at hg';subst hg';refine ⟨hg0, hgl, fun hm => ?_⟩;rw [Z1e, List.mem_append] at hm;exact hm.elim hgk hga
 ·exact hg.os.trans hF.os
 ·exact hg.tape.trans hF.tape
 ·exact hg.output.trans hF.output
 ·have := hF.size; omega
 ·intro x hx hn;have := hF.size;exact (far x (by omega) (fun e => by have := (L.own x e).1; omega)).trans (hF.block x hx hn)
end
def SInv (w wb : World) (C : QC) (B d f : Nat) (t : Tree) (σ' : RS) (g : Nat) (v : Value) (wr : World) : Prop :=
 ∃ (x : Tree) (a : ATree) (σ : RS), v = .pointer (some ⟨a.b, 0, none⟩) ∧ refF g (.singleL x) d σ = some (t, σ') ∧ Got w B wr a x ∧ QS wr C σ ∧ RFr wb wr C.rb
theorem Zhb (f : Nat) (hS : Z0y 98 qd .single f) (hFi : Z0y 107 qd .first f) (hV : ∀ g, g < f → Z0y 57 qd .value g) :
 Z0y 98 qd .single (f + 1) := by
 intro w C B d σ t σ' hQ hr hB hd hp;rw [refF] at hp;have HR := lh hr;have HB := lh hB;have HD := lh hd;have HS := lh hS;have HV := lh hV;have HFI := lh hFi;have HP := lh hp;obtain ⟨bx, hbx⟩ : ∃ b, b = w.heap.size := ⟨_, rfl⟩
 obtain ⟨wb, hwb⟩ : ∃ W, W = (w.alloc (.cells #[.pointer (some ⟨C.rb, 0, none⟩)] 54)).alloc (.cells #[.int .i64 d] 3) := ⟨_, rfl⟩
 have hbb : Below w.heap.size w wb := by rw [hwb]; exact ((Below.refl _ _).alloc (Nat.le_refl _) _).alloc (by simp) _
 have hzb : wb.heap.size = bx + 2 := by rw [hwb, hbx]; simp
 have q1 : wb.cell? ⟨bx, 0, none⟩ = some (.pointer (some ⟨C.rb, 0, none⟩)) := by
  rw [hwb, hbx];exact (Z7 (by simp)).trans (World.cell?_alloc_new w _ _ 0)
 have q2 : wb.cell? ⟨bx + 1, 0, none⟩ = some (.int .i64 d) := by
  have e : bx + 1 = (w.alloc (.cells #[.pointer (some ⟨C.rb, 0, none⟩)] 54)).heap.size := by rw [hbx]; simp
  rw [hwb, e];exact World.cell?_alloc_new _ _ _ 0
 have HNE := lh (show bx ≠ C.rb by have := hQ.rlt; omega);have HNE2 := lh (show bx + 1 ≠ C.rb by have := hQ.rlt; omega);have HQB := lh (hQ.below hbb);have FB := lh (RFr.below (rb := C.rb) hbb);have HBX1 := lh (show bx < wb.heap.size by omega);have HBX2 := lh (show bx + 1 < wb.heap.size by omega);have HQ1 := lh q1;have HQ2 := lh q2;have HWB := lh hwb;have HBX := lh hbx;have hmm := @run_makeMap Tryz.prog;have h0 := World.ownsMap_made (H := Unit) wb Tryz.prog 9 (plainElem Tryz.prog 3);have hB0 : Below wb.heap.size wb (wb.alloc (.map #[] 0)) := (Below.refl _ _).alloc (Nat.le_refl _) _
 have HB0 := lh hB0;rw [HWB.out, World.size_alloc, World.size_alloc] at h0;clear hB0 hQ hr hB hd hp hS hV hFi hbb hwb hbx hzb q1 q2;unfold qd;go_enter Tryz.func98, Tryz.ntmps98
 go_wp2_with (first | (refine Z3 _ rfl _ _ _ 88 rfl 9 3 Tryz.keyedS Tryz.underlying88 _ _ 0 _ rfl h0 (by unfold maxLen; omega) _ _ _ rfl rfl (WideMaps.keyOf_string_mk Tryz.underlying9 (by decide)) _ [] (plainElem_int Tryz.underlying3 (by decide)) ?_; intro v1 h1 g1) | (refine Z3 _ rfl _ _ _ 88 rfl 9 3 Tryz.keyedS Tryz.underlying88 _ _ 1 _ rfl h1 (by unfold maxLen; omega) _ _ _ rfl rfl (WideMaps.keyOf_string_mk Tryz.underlying9 (by decide)) _ [] (plainElem_int Tryz.underlying3 (by decide)) ?_; intro v2 h2 g2) | (refine Z3 _ rfl _ _ _ 88 rfl 9 3 Tryz.keyedS Tryz.underlying88 _ _ 2 _ rfl h2 (by unfold maxLen; omega) _ _ _ rfl rfl (WideMaps.keyOf_string_mk Tryz.underlying9 (by decide)) _ [] (plainElem_int Tryz.underlying3 (by decide)) ?_; intro v3 h3 g3) | (at_range; refine wpList_range_own _ rfl _ 88 rfl 9 3 Tryz.keyedS Tryz.underlying88 _ _ _ _ rfl h3 ?_; intro v4 hrg0 hg4 hs4))
 obtain ⟨mb, hmb⟩ : ∃ b, b = w.heap.size + 1 + 1 := ⟨_, rfl⟩
 have hz1 : wb.heap.size = mb := by rw [HWB.out, hmb]; simp
 obtain ⟨it, hit⟩ : ∃ b, b = v3.heap.size := ⟨_, rfl⟩
 have B1' := Ze HB0.out (by rw [← HWB.out] at g1; exact g1) (by omega) HB0.out.size;have B2 := Ze B1' g2 (by omega) B1'.size;have B3 := Ze B2 g3 (by omega) B2.size;have B4 : Below wb.heap.size wb v4 := B3.grown hg4 B3.size (fun j hj => by cases hj);have hitl : wb.heap.size ≤ it := by rw [hit]; exact B3.size
 have hrg : v4.ranges Tryz.prog 9 (plainElem Tryz.prog 3) mb it 3 unE (Maps.has unE) (Maps.size unE) := by rw [hmb, hit]; exact hrg0
 have HRG := lh hrg;have B4 := lh B4;rw [← hmb, ← hit];have HMB := lh hmb;have HIT := lh hit;have HZ1 := lh hz1;have HITL := lh hitl;rw [← HBX.out];clear hrg0 hg4 hs4 h0 h1 h2 h3 g1 g2 g3 B1' B2 B3 hrg hmb hit hz1 hitl HB0 hmm
 go_loopw [] (fun wr => ∃ (left : Lit → Bool) (cnt : Nat), wr.ranges Tryz.prog 9 (plainElem Tryz.prog 3) mb it 3 unE left cnt ∧ Hid (∀ kl, left kl = true → Maps.has unE kl = true) ∧
  Hid (∀ s : ByteArray, Maps.has unE (.string s.data.toList) = true → left (.string s.data.toList) = false → Zg s σ = false) ∧ Hid (Below wb.heap.size wb wr)) (fun wr => wr.rangeLeft mb it)
 case atStart => exact ⟨_, _, HRG.out, lh (fun _ h => h), lh (fun s h1 h2 => by rw [h1] at h2; cases h2), B4⟩
 case round =>
  obtain ⟨left, cnt, hrg, HLE, HNO, BW⟩ := hrel;go_wp2_with (at_next; refine wpList_next_ranges _ rfl _ rfl 9 Tryz.keyedS _ (fun x : ByteArray => Value.string x) (fun c : Int => Value.int .i64 c) (fun key kl h => by obtain ⟨x, h, _⟩ := keyOf_string_inv Tryz.underlying9 h; exact ⟨x, h⟩) (fun v y h => by obtain ⟨c, h, _⟩ := plainElem_int_inv Tryz.underlying3 h; exact ⟨c, h⟩) mb it 3 _ left cnt rfl hrg ?_ ?_)
  ·intro _ hl0;have hnone : Z5o σ = 0 := Zil fun x hx => HNO.out x.1 (Zjk hx).1 (hl0 _);have hq := HP.out;rw [if_neg (fun h => h hnone)] at hq;obtain ⟨x0, σ1, hx, hl⟩ := Zf hq;have HX := lh hx;have HL := lh hl;have QW := lh (HQB.out.below BW.out);have FW := lh (RFr.below (rb := C.rb) BW.out);have j1 : wr.cell? ⟨bx, 0, none⟩ = some (.pointer (some ⟨C.rb, 0, none⟩)) := (World.cell?_of_block (BW.out.block bx HBX1.out)).trans HQ1.out;have j2 : wr.cell? ⟨bx + 1, 0, none⟩ = some (.int .i64 d) := (World.cell?_of_block (BW.out.block _ HBX2.out)).trans HQ2.out;clear hl0 hnone hq hrg hx hl
   go_wp2_with fail
   refine (HFI.out wr C B d _ _ _ QW.out HR.out (Nat.le_trans HB.out (FB.out.trans FW.out).size) (by have := HD.out; omega) HX.out).mono ?_;rintro e w1 ⟨a0, rfl, h1, h2, h3⟩;have ST := lh (show ∃ g, g ≤ f ∧ SInv w wb C B d f t σ' g (.pointer (some ⟨a0.b, 0, none⟩)) w1 from ⟨f, Nat.le_refl _, x0, a0, σ1, rfl, HL.out, h1.pre (FB.out.trans FW.out), h2, FW.out.trans h3⟩);clear h1 h2 h3 j1 j2;go_wp2_with fail
   go_loopw [7] (fun v wr => ∃ g, g ≤ f ∧ SInv w wb C B d f t σ' g v wr) (fun v wr => least fun g => g ≤ f ∧ SInv w wb C B d f t σ' g v wr)
   case atStart => exact ST.out
   case round =>
    clear ST;have hI := Z3j hrel;obtain ⟨g, hg⟩ : ∃ g, g = least fun g => g ≤ f ∧ SInv w wb C B d f t σ' g u7 wr := ⟨_, rfl⟩
    rw [← hg] at hI;have HG := lh hg;clear hg hrel;obtain ⟨hgF, x, a, σ2, rfl, hp, hN, hQ, hF⟩ := hI;cases g with
    | zero => simp [refF] at hp
    | succ g =>
    rw [refF] at hp;have HO := Z1y hQ;have hxw := hF.size;have j1 : wr.cell? ⟨bx, 0, none⟩ = some (.pointer (some ⟨C.rb, 0, none⟩)) := (hF.cell HBX1.out HNE.out).trans HQ1.out;have j2 : wr.cell? ⟨bx + 1, 0, none⟩ = some (.int .i64 d) := (hF.cell HBX2.out HNE2.out).trans HQ2.out;have HN := lh hN;have Q2 := lh hQ;have F2 := lh hF;have HGF := lh hgF;have HW := lh hxw;clear hN hQ hF hgF hxw;by_cases hf : σ2.f.isNone = true;rotate_left
    ·have hf : σ2.f.isNone = false := Bool.eq_false_iff.2 hf;rw [hf] at HO;rw [if_neg (by simp [Zg, hf]), if_neg (by simp [Zg, hf])] at hp;simp only [Option.some.injEq, Prod.mk.injEq] at hp;have HO := lh HO;have HE := lh hp;clear hf hp;go_wp2_with fail
     refine HO.out.mono ?_;rintro e w3 ⟨rfl, rfl⟩;go_wp2;go_ret;obtain ⟨h4, h5⟩ := HE.out;exact ⟨a, rfl, by rw [← h4]; exact HN.out, by rw [← h5]; exact Q2.out, FB.out.trans F2.out⟩
    rw [hf] at HO;have HO := lh HO;have HE := lh hp;clear hf hp;go_wp2_with fail
    refine HO.out.mono ?_;rintro e w3 ⟨rfl, rfl⟩;clear HO;go_wp2_with fail
    have HT := Z0e Q2.out Z8v;have hE := HE.out;by_cases hd : Zg Z8v σ2 = true
    ·rw [hd, if_pos rfl] at HT;rw [if_pos hd] at hE;replace HE := lh hE
     clear hE hd;refine HT.mono ?_;rintro e w3 ⟨rfl, h3, f3⟩;have k1 := (f3.cell (Nat.lt_of_lt_of_le HBX1.out HW.out) HNE.out).trans j1;have Q3 := lh h3;have F3 := lh f3;clear h3 f3 HT j1 j2;go_wp2_with fail
     refine (Z2e Q3.out B HR.out (Nat.le_trans HB.out ((FB.out.trans F2.out).trans F3.out).size)).mono ?_;rintro e w4 ⟨rfl, h4, f4⟩;have Q4 := lh h4;have F4 := lh (F3.out.trans f4);clear h4 f4 k1;go_wp2;have hal := (Below.refl w4.heap.size w4).alloc (Nat.le_refl _) (.cells #[.pointer (some ⟨a.b, 0, none⟩)] 22);have hFF := (FB.out.trans F2.out).trans F4.out;have hfin := Got.one (k := 36) (t := (Zj (advR σ2)).1) HB.out hFF (HN.out.rfr HR.out F4.out)
     have hinv : g ≤ f ∧ SInv w wb C B d f t σ' g (.pointer (some ⟨w4.heap.size + 1, 0, none⟩)) ((w4.alloc (.cells #[.pointer (some ⟨a.b, 0, none⟩)] 22)).alloc (.cells #[.int .i64 36, .string (Zj (advR σ2)).1, .int .i64 0, .slice (some ⟨w4.heap.size, 0, none⟩) 1 1] 44)) :=
      ⟨by have := HGF.out; omega, _, _, _, rfl, HE.out, hfin, (Q4.out.below hal).below ((Below.refl _ _).alloc (Nat.le_refl _) _), ((F2.out.trans F4.out).trans (RFr.below hal)).trans (RFr.below ((Below.refl _ _).alloc (Nat.le_refl _) _))⟩
     exact ⟨⟨g, hinv⟩, by rw [← HG.out]; exact Nat.lt_succ_of_le (Z22 hinv)⟩
    have hd : Zg Z8v σ2 = false := by simpa using hd
    rw [hd] at HT;simp only [Bool.false_eq_true, if_false] at HT;rw [if_neg (by simp [hd])] at hE;replace HE := lh hE
    clear hE hd;refine HT.mono ?_;rintro e w3 ⟨rfl, h3, f3⟩;have k1 := (f3.cell (Nat.lt_of_lt_of_le HBX1.out HW.out) HNE.out).trans j1;have k2 := (f3.cell (Nat.lt_of_lt_of_le HBX2.out HW.out) HNE2.out).trans j2;have Q3 := lh h3;have F3 := lh f3;clear h3 f3 HT j1 j2;go_wp2_with fail
    have HT := Z0e Q3.out Z05;have hE := HE.out;by_cases hd : Zg Z05 σ2 = true;rotate_left
    ·have hd : Zg Z05 σ2 = false := by simpa using hd
     rw [hd] at HT;simp only [Bool.false_eq_true, if_false] at HT;rw [if_neg (by simp [hd])] at hE;obtain ⟨rfl, rfl⟩ : x = t ∧ σ2 = σ' := by simpa using hE
     clear hE hd;refine HT.mono ?_;rintro e w4 ⟨rfl, h4, f4⟩;have Q4 := lh h4;have F4 := lh (F3.out.trans f4);clear h4 f4 HT k1 k2;go_wp2;go_ret;exact ⟨a, rfl, HN.out.rfr HR.out F4.out, Q4.out, (FB.out.trans F2.out).trans F4.out⟩
    rw [hd, if_pos rfl] at HT;rw [if_pos hd] at hE;obtain ⟨l, σ4, hl, hE⟩ := Zf hE;replace HE := lh hE
    have HLL := lh hl;clear hE hd hl;refine HT.mono ?_;rintro e w4 ⟨rfl, h4, f4⟩;have hw34 : wr.heap.size ≤ w4.heap.size := (F3.out.trans f4).size;have i1 := (f4.cell (Nat.lt_of_lt_of_le HBX1.out (Nat.le_trans HW.out F3.out.size)) HNE.out).trans k1;have i2 := (f4.cell (Nat.lt_of_lt_of_le HBX2.out (Nat.le_trans HW.out F3.out.size)) HNE2.out).trans k2;have Q4 := lh h4;have F4 := lh (F3.out.trans f4);have HW4 := lh (Nat.le_trans HW.out hw34);clear h4 f4 HT k1 k2 hw34;go_wp2_with fail
    refine (Zfn g d 108 #[.pointer (some ⟨bx, 0, none⟩), .pointer (some ⟨bx + 1, 0, none⟩)] Z06 .args (fun g σ => refF g .value (d + 1) σ) Zjd (fun g acc σ => by rw [refF]) w4 C B HR.out (Nat.le_trans HB.out ((FB.out.trans F2.out).trans F4.out).size) (fun g' hg' w2 σ x σ' hF hQ hi => ?_) _ Q4.out l σ4 HLL.out).mono ?_
    ·exact Zjx g' (HV.out g' (by have := HGF.out; omega)) w2 C B bx (bx + 1) d σ _ _ (by have := HD.out; have := HGF.out; omega) hi hQ HR.out (Nat.le_trans HB.out (((FB.out.trans F2.out).trans F4.out).trans hF).size) ((hF.cell (Nat.lt_of_lt_of_le HBX1.out HW4.out) HNE.out).trans i1) ((hF.cell (Nat.lt_of_lt_of_le HBX2.out HW4.out) HNE2.out).trans i2)
    rintro e w5 ⟨v, kids, rfl, h1, h2, h3, h8⟩;obtain ⟨p, cp, rfl⟩ := h1.slice;have hX5 : Got w B w5 a x := (HN.out.rfr HR.out F4.out).rfr HR.out h3;have hF5 : RFr w w5 C.rb := ((FB.out.trans F2.out).trans F4.out).trans h3;have hrow1 := (KidsAt.one hX5).lit (Nat.le_trans HB.out hF5.size) hF5.size (by simp);have hal5 := (Below.refl w5.heap.size w5).alloc (Nat.le_refl _) (.cells #[a.ptr] 22);have R1 := lh hrow1;have X5 := lh hX5;have L5 := lh h1;have Q5 := lh (h2.below hal5);have F5 := lh (hF5.trans (RFr.below (rb := C.rb) hal5))
    have FW5 := lh (((F2.out.trans F4.out).trans h3).trans (RFr.below (rb := C.rb) hal5));have HKL := lh h1.len;have HW5 := lh (show wb.heap.size ≤ w5.heap.size from ((F2.out.trans F4.out).trans h3).size);have HWW5 := lh hF5.size;have H8 := lh h8;have HXA := lh (fun y hy => Nat.lt_of_lt_of_le (HN.out.new y hy).2 F4.out.size);have HS4 := lh ((FB.out.trans F2.out).trans F4.out).size;have hrw := h1.row;obtain ⟨i0, hi, hz0, hz1, hz2⟩ := info_parts Tryz.infoPtr;clear h1 h2 h3 h8 hX5 hF5 hrow1 hal5 i1 i2;cases hkk : kids with
    | nil =>
      subst hkk;have hl0 : l.kids.length = 0 := HKL.out.symm;have hlk : l.kids = [] := List.eq_nil_of_length_eq_zero hl0;have HLK := lh hlk;rw [hl0];clear hl0 hlk hrw;go_wp2_with (at_builtin; go_must (refine Z6d rfl (.tmp 55) (.tmp 56) 42 rfl B 22 i0 1 Tryz.underlying42 hi (.slice (some ⟨w5.heap.size, 0, none⟩) 1 1) 1 [a.ptr] rfl R1.out.row p cp rfl ?_))
      have hfin := R1.out.node (k := 35) (tx := ⟨#[]⟩) (n := 0) (Nat.le_trans HB.out F5.out.size) F5.out.size;have hinv : g ≤ f ∧ SInv w wb C B d f t σ' g (.pointer (some ⟨(w5.alloc (.cells #[a.ptr] 22)).heap.size, 0, none⟩)) ((w5.alloc (.cells #[a.ptr] 22)).alloc (.cells #[.int .i64 35, .string ⟨#[]⟩, .int .i64 0, .slice (some ⟨w5.heap.size, 0, none⟩) 1 1] 44)) :=
       ⟨by have := HGF.out; omega, _, _, _, rfl, (by have h := HE.out; rw [HLK.out] at h; exact h), hfin, Q5.out.below ((Below.refl _ _).alloc (Nat.le_refl _) _), FW5.out.trans (RFr.below ((Below.refl _ _).alloc (Nat.le_refl _) _))⟩
      rw [World.size_alloc] at hinv;exact ⟨⟨g, hinv⟩, by rw [← HG.out]; exact Nat.lt_succ_of_le (Z22 hinv)⟩
    | cons k0 ks =>
      rcases Zc hrw with ⟨_, h2⟩ | ⟨g0, cap0, hv0, b1, b2, b3⟩;·rw [hkk] at h2; simp at h2
      obtain rfl : p = some ⟨g0, 0, none⟩ := by simp only [Value.slice.injEq] at hv0; exact hv0.1
      have hm0 : 0 < kids.length := by rw [hkk]; simp
      clear hkk k0 ks;have hg0 : g0 < w5.heap.size := (hrw.lt g0 rfl).2;have NEWS := lh (show ∀ (j : Nat) (u : Value), (kids.map ATree.ptr)[j]? = some u → (w5.alloc (.cells #[a.ptr] 22)).cell? ((⟨g0, 0, none⟩ : Addr).add j) = some u from fun j u hu => by
       have hadd : (⟨g0, 0, none⟩ : Addr).add j = ⟨g0, j, none⟩ := by unfold Addr.add; split <;> simp_all
       rw [hadd];exact (Z7 hg0).trans (Zo hrw (g := g0) rfl hu))
      have hl8 : kids.length ≤ 8 := by rw [HKL.out]; exact H8.out
      rw [← HKL.out];have HG0 := lh hg0;clear hrw hv0 b1 b2 b3 hg0;go_wp2_with (at_builtin; go_must (refine wpList_append_lies _ rfl (.tmp 55) (.tmp 56) 42 rfl B 22 i0 _ 1 8 Tryz.underlying42 hi hz0 hz1 hz2 rfl (by decide) (.slice (some ⟨w5.heap.size, 0, none⟩) 1 1) 1 [a.ptr] rfl R1.out.row ⟨g0, 0, none⟩ kids.length cp (kids.map ATree.ptr) rfl (by simp) NEWS.out (fun u hu => by obtain ⟨z, _, rfl⟩ := List.mem_map.1 hu; rfl) hm0 (by unfold maxLen; omega) (by omega) (Nat.le_trans HB.out F5.out.size) (w5.heap.size + 1) (by simp) ?_); intro gg cap w6 hown2 hgrow2 hat2 hgl2)
      have hal5 := (Below.refl w5.heap.size w5).alloc (Nat.le_refl _) (.cells #[a.ptr] 22);have hpush := R1.out.pushL (wA := w4) (fun y hy => HXA.out y (by simpa [Zv] using hy)) (L5.out.rfr HR.out (RFr.below (rb := C.rb) hal5)).ks (fun y hy hm => by
       simp only [Value.ownBlock, Option.some.injEq] at hy;have := (L5.out.ks.new _ hm).2; omega) HS4.out hgrow2 hown2 (by rcases hat2 with h | h; (exact .inl h); (exact .inr (by simp; omega))) hgl2 F5.out
      have hfin := hpush.1.node (k := 35) (tx := ⟨#[]⟩) (n := 0) (Nat.le_trans HB.out hpush.2.2.size) hpush.2.2.size;have hF6 : RFr wb w6 C.rb := by
       refine ⟨hgrow2.os.trans FW5.out.os, hgrow2.tape.trans FW5.out.tape, hgrow2.output.trans FW5.out.output, Nat.le_trans FW5.out.size hgrow2.size, fun y hy hn => ?_⟩;have h5 := FW5.out.size;refine (hpush.2.1 y (Nat.lt_of_lt_of_le hy h5) (fun e => ?_)).trans (FW5.out.block y hy hn);simp only [Value.ownBlock, Option.some.injEq] at e;have := HS4.out; have := FW5.out.size; have := HW5.out; omega
      have hQ6 := Q5.out.keep (w' := w6) fun y hy => hpush.2.1 y (Nat.lt_of_le_of_lt hy Q5.out.rlt) (fun e => by
       simp only [Value.ownBlock, Option.some.injEq] at e;have := HR.out; have := HB.out; have := HWW5.out; omega)
      have hinv : g ≤ f ∧ SInv w wb C B d f t σ' g (.pointer (some ⟨w6.heap.size, 0, none⟩)) (w6.alloc (.cells #[.int .i64 35, .string ⟨#[]⟩, .int .i64 0, .slice (some ⟨gg, 0, none⟩) (1 + kids.length) cap] 44)) :=
       ⟨by have := HGF.out; omega, _, _, _, rfl, HE.out, hfin, hQ6.below ((Below.refl _ _).alloc (Nat.le_refl _) _), hF6.trans (RFr.below ((Below.refl _ _).alloc (Nat.le_refl _) _))⟩
      exact ⟨⟨g, hinv⟩, by rw [← HG.out]; exact Nat.lt_succ_of_le (Z22 hinv)⟩
  ·intro x c kl y ys w2 cnt2 hkx hlx hvx hat hrg2 hcnt hg2 hs2 hen;have hb2 : Below wb.heap.size wb w2 := Ze BW.out hg2 HITL.out BW.out.size;have B2 := lh hb2;obtain ⟨x', e, rfl⟩ := keyOf_string_inv Tryz.underlying9 hkx;obtain rfl : x = x' := by cases e; rfl
   obtain ⟨z, hz, hzx⟩ := Zj9 (HLE.out _ hlx);have hxz : x = z.1 := by
    have : x.data.toList = z.1.data.toList := by simpa using hzx
    exact Z25 (by rw [Lib.toList_data, Lib.toList_data]; exact this)
   obtain ⟨c', e1, e2, _⟩ := plainElem_int_inv Tryz.underlying3 hvx;obtain rfl : c = c' := by cases e1; rfl
   have hcz : c = z.2 := by
    have h1 := hat (.lit (.int .i64 0));simp only [Prod.mk.injEq] at e2;rw [hxz, (Zjk hz).2, e2.1] at h1;simpa using h1.symm
   have HZ := lh hz;have HXZ := lh hxz;have HCZ := lh hcz;have HRG2 := lh hrg2;have HRG := lh hrg;have HLT := lh hcnt;have Q2 := HQB.out.below hb2;have j1 : w2.cell? ⟨bx, 0, none⟩ = some (.pointer (some ⟨C.rb, 0, none⟩)) := (World.cell?_of_block (hb2.block bx HBX1.out)).trans HQ1.out;have j2 : w2.cell? ⟨bx + 1, 0, none⟩ = some (.int .i64 d) := (World.cell?_of_block (hb2.block _ HBX2.out)).trans HQ2.out;clear e hzx hxz e1 e2 hcz hz hrg2 hrg hlx hvx hat hkx hcnt hg2 hs2;by_cases hs : Zg x σ = true
   ·have hh := Zje HZ.out (σ := σ) (by rw [← HXZ.out]; exact hs);have hq := HP.out;rw [if_pos (by rw [hh.1]; exact hh.2), hh.1, ← HCZ.out] at hq;have HT := Z0e Q2 x;rw [hs, if_pos rfl] at HT;have HT := lh HT;have HQ := lh hq;have F2 := lh (FB.out.trans (RFr.below (rb := C.rb) hb2));have hz2 := lh hb2.size;clear hs hh hq Q2 hb2;go_wp2_with fail
    refine HT.out.mono ?_;rintro e w3 ⟨rfl, h3, f3⟩;have k1 : w3.cell? ⟨bx, 0, none⟩ = some (.pointer (some ⟨C.rb, 0, none⟩)) := (f3.cell (Nat.lt_of_lt_of_le HBX1.out hz2.out) HNE.out).trans j1;have k2 : w3.cell? ⟨bx + 1, 0, none⟩ = some (.int .i64 d) := (f3.cell (Nat.lt_of_lt_of_le HBX2.out hz2.out) HNE2.out).trans j2;have Q3 := lh h3;have F3 := lh (F2.out.trans f3);have hdd := HD.out;clear h3 f3 j1 j2 HT;by_cases h30 : 30 < d + 1
    ·have n30 : ((d : Int) + 1 > 30) = true := by simp; omega
     have hq := HQ.out;rw [if_pos h30] at hq;obtain ⟨rfl, rfl⟩ : gT = t ∧ Z2q 4 (advR σ) = σ' := by simpa using hq
     clear hq;go_wp2_with fail
     refine (Z2h Q3.out 4 (by decide) B HR.out (Nat.le_trans HB.out F3.out.size)).mono ?_;rintro e w4 ⟨a, rfl, h4⟩;have H4 := lh h4;clear h4;go_wp2;go_ret;exact Z1h.pre F3.out ⟨a, rfl, H4.out⟩
    ·have hq := HQ.out;rw [if_neg h30] at hq;obtain ⟨x1, σ1, hx, hq⟩ := Zf hq;obtain ⟨rfl, rfl⟩ : Tree.mk c ByteArray.empty 0 [x1] = t ∧ σ1 = σ' := by simpa using hq
     have HX := lh hx;clear hq hx;go_wp2_with fail
     refine (HS.out w3 C B (d + 1) _ _ _ Q3.out HR.out (Nat.le_trans HB.out F3.out.size) (by omega) HX.out).mono ?_;rintro e w4 ⟨a, rfl, h4, h5, h6⟩;have G4 := lh h4;have Q4 := lh h5;have F4 := lh h6;clear h4 h5 h6 k1 k2;go_wp2;go_ret;have hal := (Below.refl w4.heap.size w4).alloc (Nat.le_refl _) (.cells #[.pointer (some ⟨a.b, 0, none⟩)] 22)
     refine ⟨_, ?_, Got.one (k := c) (t := ⟨#[]⟩) HB.out (F3.out.trans F4.out) (G4.out.pre F3.out), (Q4.out.below hal).below ((Below.refl _ _).alloc (Nat.le_refl _) _), ((F3.out.trans F4.out).trans (RFr.below hal)).trans (RFr.below ((Below.refl _ _).alloc (Nat.le_refl _) _))⟩;simp [ATree.b]
   ·have hs' : Zg x σ = false := by simpa using hs
    have HT := lh (Zk Q2 x hs');have HSN := lh hs';clear hs hs' Q2 hb2;go_wp2_with fail
    refine HT.out.mono ?_;rintro e w3 ⟨rfl, hB3⟩;have B3 := lh hB3;have hg3 : w2.grownBy w3 none := ⟨hB3.os, hB3.tape, hB3.output, hB3.size, fun i hi _ => hB3.block i hi⟩
    have HRG3 := lh (HRG2.out.kept hg3 (by simp) (by simp));clear hB3 hg3;go_wp2;go_roundw
    case rel =>
     refine ⟨_, cnt2, HRG3.out, lh (fun kl hkl => HLE.out kl (by simp only [Bool.and_eq_true] at hkl; exact hkl.1)), lh (fun s h1 h2 => ?_), lh (B2.out.trans (B3.out.mono B2.out.size))⟩;by_cases hl : left (.string s.data.toList) = true
     ·rw [hl] at h2;simp only [Bool.true_and, Bool.not_eq_false'] at h2;have e := WideAt.sameKey_eq h2;have : s = x := Z25 (by rw [Lib.toList_data, Lib.toList_data]; simpa using e);rw [this]; exact HSN.out
     ·exact HNO.out s h1 (by simpa using hl)
    case measure => rw [HRG3.out.left_eq, HRG.out.left_eq]; exact HLT.out
end Go.Proofs.YtgmnfgljkocnpaaGreatDoor
namespace Go.Proofs.YtgmnfgljkocnpaaGreatDoor
open Go Go.RowKit
set_option maxRecDepth 100000
set_option maxHeartbeats 20000000
set_option linter.unusedVariables false
theorem Zeo (w : World) (C : QC) (B d : Nat) (σ : RS) (hQ : QS w C σ) (hr : C.rb < B) (hB : B ≤ w.heap.size) (hd : 30 < d) (hd2 : d ≤ 1000000000000) : Calls Tryz.prog 25 (qd C.rb d) w (Z1h w C B gT (Z2q 4 σ)) := by
 have HF := lh (Z2h hQ 4 (by decide) B hr hB);have n30 : ((d : Int) > 30) = true := by simp; omega
 clear hQ hr hB hd;unfold qd;go_enter Tryz.func25, Tryz.ntmps25
 go_wp2_with fail
 refine HF.out.mono ?_;rintro e w3 ⟨a, rfl, h1⟩;have H1 := lh h1;clear h1;go_wp2;go_ret;exact ⟨a, rfl, H1.out⟩
theorem Zcf (f : Nat) (hBr : Z0y 50 (Z7x false) (.braces false) f) (w : World) (C : QC) (B d : Nat) (σ : RS) (t : Tree) (σ' : RS) (hQ : QS w C σ) (hr : C.rb < B) (hB : B ≤ w.heap.size) (hd : d ≤ 30) (hdf : d + (f + 1) ≤ 1000000000000) (hn : Zg Zb σ = true) (hp : refF f (.braces false) d σ = some (t, σ')) :
 Calls Tryz.prog 25 (qd C.rb d) w (Z1h w C B t σ') := by
 have n30 : ¬ (d : Int) > 30 := by omega
 have hal : Below w.heap.size w (w.alloc (.cells #[.int .i64 0, .string ⟨#[]⟩, .int .i64 0, .slice none 0 0] 44)) := (Below.refl _ _).alloc (Nat.le_refl _) _;have HN := Zd (hQ.below hal) Zb;rw [hn] at HN;have HN := lh HN;have Q0 := lh (hQ.below hal);have F0 := lh (RFr.below (rb := C.rb) hal);have HBR := lh hBr;have HP := lh hp;have HR := lh hr;have HB := lh hB;have HD := lh hdf;clear hQ hr hB hd hn hp hBr hal hdf;unfold qd;go_enter Tryz.func25, Tryz.ntmps25
 go_wp2_with fail
 refine HN.out.mono ?_;rintro e w1 ⟨rfl, hb1⟩;have Q1 := lh (Q0.out.below hb1);have F1 := lh (F0.out.trans (RFr.below (rb := C.rb) hb1));clear hb1 HN;go_wp2_with fail
 refine (HBR.out w1 C B d _ _ _ Q1.out HR.out (Nat.le_trans HB.out F1.out.size) (by have := HD.out; omega) HP.out).mono ?_;rintro e w3 ⟨a, rfl, h1⟩;have H1 := lh h1;clear h1;go_wp2;go_ret;exact Z1h.pre F1.out ⟨a, rfl, H1.out⟩
theorem Zew (w : World) (C : QC) (B d : Nat) (σ : RS) (hQ : QS w C σ) (hr : C.rb < B) (hB : B ≤ w.heap.size) (hd : d ≤ 30) (hn : Zg Zh σ = true) :
 Calls Tryz.prog 25 (qd C.rb d) w (Z1h w C B (.mk 16 ByteArray.empty 0 []) (advR σ)) := by
 have n30 : ¬ (d : Int) > 30 := by omega
 obtain ⟨nb, hnb⟩ : ∃ b, b = w.heap.size := ⟨_, rfl⟩
 obtain ⟨w0, hw0⟩ : ∃ W, W = w.alloc (.cells #[.int .i64 0, .string ⟨#[]⟩, .int .i64 0, .slice none 0 0] 44) := ⟨_, rfl⟩
 have hal : Below w.heap.size w w0 := by rw [hw0]; exact (Below.refl _ _).alloc (Nat.le_refl _) _
 have HN := Zd (hQ.below hal) Zb;rw [Z2a hn (by decide)] at HN;have HN := lh HN;have Q0 := lh (hQ.below hal);have F0 := lh (RFr.below (rb := C.rb) hal);have G0 := lh (show Got w B w0 (.mk nb (.slice none 0 0) 0 ⟨#[]⟩ 0 []) (.mk 0 ⟨#[]⟩ 0 []) by rw [hw0, hnb]; exact Got.leaf hB (RFr.refl w C.rb));have HR := lh hr;have HB := lh hB;have HS := lh hn;have HW0 := lh hw0;have HNB := lh hnb;clear hQ hr hB hd hn hal hw0 hnb;unfold qd;go_enter Tryz.func25, Tryz.ntmps25
 go_wp2_with fail
 rw [← HW0.out, ← HNB.out];refine HN.out.mono ?_;rintro e w1 ⟨rfl, hb1⟩;have Q1 := lh (Q0.out.below hb1);have F1 := lh (RFr.below (rb := C.rb) hb1);clear hb1 HN;go_wp2_with fail
 have HT := Z0e Q1.out Zh;rw [HS.out, if_pos rfl] at HT;refine HT.mono ?_;rintro e w2 ⟨rfl, h2, f2⟩;have hF2 := F1.out.trans f2;have hG2 := G0.out.rfr HR.out hF2;have hblk := hG2.at'.blkOf;simp only [ATree.b, ATree.v, ATree.kind, ATree.text, ATree.n] at hblk;have y0 : w2.cell? ⟨nb, 0, none⟩ = some (.int .i64 0) := by simp [World.cell?, hblk]
 have z0 : w2.frozen? ⟨nb, 0, none⟩ = false := by simp [World.frozen?, hblk]
 have FIN := lh (Got.kind0 (k' := 16) HR.out HB.out hG2 (F0.out.trans hF2));have Q2 := lh h2;clear HT h2 f2 hF2 hG2 hblk;go_wp2;go_ret;obtain ⟨g1, g2, g3⟩ := FIN.out;exact ⟨_, rfl, g1, Q2.out.keep fun k hk => g3 k (by have := HR.out; omega), g2⟩
end Go.Proofs.YtgmnfgljkocnpaaGreatDoor
