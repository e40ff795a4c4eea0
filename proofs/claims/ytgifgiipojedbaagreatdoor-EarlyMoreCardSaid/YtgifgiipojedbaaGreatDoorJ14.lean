/- Package where: look. Package where: lets; the finder, as it stands. Package where: the finder as it stands; kids. Package early, plain: what Check says, and that it says less in looser code. Package early: the small functions. -/
import Derived.Test.YtgifgiipojedbaaGreatDoorJ13
import Derived.Test.YtgifgiipojedbaaGreatDoorJ01
namespace Go.Proofs.YtgifgiipojedbaaGreatDoor
open Go Go.RowKit
set_option maxRecDepth 100000
set_option linter.unusedVariables false

structure Sc where
  at' : Int
  names : List ByteArray
  op : Bool
def rankP : Value → Nat
  | .pointer (some a) => a.block + 1
  | _ => 0
/-- a chain of scopes, from within -/
def ScopeAt (w : World) (B : Nat) : List Sc → Value → Prop
  | [], v => v = .pointer none
  | s :: l, v => ∃ b nv ov, v = .pointer (some ⟨b, 0, none⟩) ∧ w.heap[b]? = some (.cells #[ov, .int .i64 s.at', nv, .bool s.op] 88 (0, 0)) ∧ Texts w B nv s.names ∧ rankP ov < b + 1 ∧ ScopeAt w B l ov
/-- whose name it is, and whether that is sure -/
def lookF (name : ByteArray) : List Sc → Bool → Int × Bool
  | [], sure => (-1, sure)
  | s :: l, sure => if Lib.containsS s.names name then (s.at', sure) else lookF name l (sure && !s.op)
theorem ScopeAt.keep {w w' : World} {B : Nat} : ∀ {l : List Sc} {v : Value}, ScopeAt w B l v → (∀ (k : Nat) (c : Array Value) (t : TypeId), w.heap[k]? = some (Obj.cells c t (0, 0)) → t = 88 → w'.heap[k]? = w.heap[k]?) →
    (∀ v l, Texts w B v l → Texts w' B v l) → ScopeAt w' B l v
  | [], v, h, _, _ => h
  | s :: l, v, ⟨b, nv, ov, h1, h2, h3, h4, h5⟩, hk, ht => ⟨b, nv, ov, h1, (hk b _ _ h2 rfl).trans h2, ht _ _ h3, h4, h5.keep hk ht⟩
theorem ScopeAt.bel {w w' : World} {B : Nat} {l : List Sc} {v : Value} (h : ScopeAt w B l v) (g : Below w.heap.size w w') : ScopeAt w' B l v :=
  h.keep (fun k c t h _ => g.block k (Array.getElem?_eq_some_iff.1 h).1) fun v l h => h.bel g
theorem ScopeAt.ptr {w : World} {B : Nat} {l : List Sc} {v : Value} (h : ScopeAt w B l v) : ∃ p, v = .pointer p := by
  cases l with
  | nil => exact ⟨_, h⟩
  | cons s l => obtain ⟨b, nv, ov, h1, _⟩ := h; exact ⟨_, h1⟩
theorem set3 {w wr : World} {B0 : Nat} (hB : Below B0 w wr) {b : Nat} (hb : B0 ≤ b) (x y z : Value) : Below B0 w (((wr.setCell ⟨b, 0, none⟩ x).setCell ⟨b, 1, none⟩ y).setCell ⟨b, 2, none⟩ z) :=
  ((hB.setCell (p := ⟨b, 0, none⟩) hb x).setCell (p := ⟨b, 1, none⟩) hb y).setCell (p := ⟨b, 2, none⟩) hb z
def useV (at' : Int) (r : Int × Bool) : Value := .agg #[.int .i64 at', .int .i64 r.1, .bool r.2]

set_option maxHeartbeats 8000000 in
theorem look_any (w : World) (B : Nat) (at' : Int) (name : ByteArray) (l : List Sc) (v : Value) (hS : ScopeAt w B l v) :
    Calls Tryz.prog 143 #[.int .i64 at', .string name, v] w fun e w' => e = .returned (useV at' (lookF name l true)) ∧ Below w.heap.size w w' := by
  obtain ⟨R, hR⟩ : ∃ R, R = lookF name l true := ⟨_, rfl⟩
  rw [← hR]
  obtain ⟨p, rfl⟩ := hS.ptr
  have HS := Lib.hid hS
  have HR := Lib.hid hR
  clear hS hR
  unfold useV
  go_enter Tryz.func143, Tryz.ntmps143
  go_wp2_with fail
  go_loopw [2] (fun x wr => ∃ (l' : List Sc) (sure : Bool), ScopeAt w B l' x ∧ lookF name l' sure = R ∧ Below w.heap.size w wr ∧ wr.heap.size = w.heap.size + 2 ∧
    wr.heap[w.heap.size]? = some (.cells #[.int .i64 0, .int .i64 0, .bool false] 57 (0, 0)) ∧ wr.heap[w.heap.size + 1]? = some (.cells #[.int .i64 at', .int .i64 (-1), .bool sure] 57 (0, 0))) (fun x _ => rankP x)
  case atStart =>
    exact ⟨l, true, HS.out, HR.out.symm, ((Below.refl _ _).alloc (Nat.le_refl _) _).alloc (by simp) _, by simp, ((Go.MapKept.heap_alloc (w.alloc (.cells #[.int .i64 0, .int .i64 0, .bool false] 57)) (.cells #[.int .i64 at', .int .i64 (-1), .bool true] 57)).2 _ (by simp)).trans (Go.MapKept.heap_alloc w _).1, by
      have := (Go.MapKept.heap_alloc (w.alloc (.cells #[.int .i64 0, .int .i64 0, .bool false] 57)) (.cells #[.int .i64 at', .int .i64 (-1), .bool true] 57)).1
      simpa using this⟩
  case round =>
    obtain ⟨l', sure, hS, hR, hB, hsz, hb0, hb1⟩ := hrel
    have HB := Lib.hid hB
    have d0 : wr.cell? ⟨w.heap.size + 1, 0, none⟩ = some (.int .i64 at') := by simp [World.cell?, hb1]
    have d1 : wr.cell? ⟨w.heap.size + 1, 1, none⟩ = some (.int .i64 (-1)) := by simp [World.cell?, hb1]
    have d2 : wr.cell? ⟨w.heap.size + 1, 2, none⟩ = some (.bool sure) := by simp [World.cell?, hb1]
    have e0 : wr.cell? ⟨w.heap.size, 0, none⟩ = some (.int .i64 0) := by simp [World.cell?, hb0]
    have e1 : wr.cell? ⟨w.heap.size, 1, none⟩ = some (.int .i64 0) := by simp [World.cell?, hb0]
    have e2 : wr.cell? ⟨w.heap.size, 2, none⟩ = some (.bool false) := by simp [World.cell?, hb0]
    have ez : ∀ i, wr.frozen? ⟨w.heap.size, i, none⟩ = false := fun i => by simp [World.frozen?, hb0]
    have dz : ∀ i, wr.frozen? ⟨w.heap.size + 1, i, none⟩ = false := fun i => by simp [World.frozen?, hb1]
    have HD := Lib.hid hb0
    have HE := Lib.hid hb1
    cases l' with
    | nil =>
      have hx : _ = Value.pointer none := hS
      subst hx
      have hR2 : R = (-1, sure) := hR.symm
      subst hR2
      clear hS hR hB
      go_wp2
      refine bodyPost_ret (v := useV at' (-1, sure)) ?_ rfl ⟨rfl, set3 HB.out (Nat.le_refl _) _ _ _⟩
      simp [results, Tryz.results143, go_sem, useV, e0, e1, e2]
    | cons s l' =>
      obtain ⟨b, nv, ov, rfl, hb, ht, hr, hS'⟩ := hS
      have hbw := (Array.getElem?_eq_some_iff.1 hb).1
      have hbr : wr.heap[b]? = _ := (HB.out.block b hbw).trans hb
      have f0 : wr.cell? ⟨b, 0, none⟩ = some ov := by simp [World.cell?, hbr]
      have f1 : wr.cell? ⟨b, 1, none⟩ = some (.int .i64 s.at') := by simp [World.cell?, hbr]
      have f2 : wr.cell? ⟨b, 2, none⟩ = some nv := by simp [World.cell?, hbr]
      have f3 : wr.cell? ⟨b, 3, none⟩ = some (.bool s.op) := by simp [World.cell?, hbr]
      have hne0 : b ≠ w.heap.size := by omega
      have hne1 : b ≠ w.heap.size + 1 := by omega
      obtain ⟨q, rfl⟩ := hS'.ptr
      have HC := Lib.hid (contains_texts (ht.bel HB.out) name)
      have HS2 := Lib.hid hS'
      have HRK := Lib.hid hr
      simp only [lookF] at hR
      obtain ⟨con, hcon⟩ : ∃ con, con = Lib.containsS s.names name := ⟨_, rfl⟩
      rw [← hcon] at hR HC
      clear hS' hr ht hb hbr hcon hB hb0 hb1
      cases con
      · simp only [Bool.false_eq_true, if_false] at hR
        have HR2 := Lib.hid hR
        obtain ⟨so, hso⟩ : ∃ so, so = s.op := ⟨_, rfl⟩
        rw [← hso] at f3 HR2
        clear hR hso
        go_wp2_with fail
        refine HC.out.mono ?_
        rintro e w3 ⟨rfl, rfl⟩
        clear HC
        cases sure <;> cases so
        all_goals
          go_wp2
          go_roundw
          case rel => exact ⟨l', _, HS2.out, HR2.out, HB.out.setCell (p := ⟨w.heap.size + 1, 2, none⟩) (by simp) _, by rw [World.size_setCell]; exact hsz, (Below.heap_setCell _ _ _ _ (by simp)).trans HD.out, setCell_block (o := 2) _ HE.out⟩
          case measure => have := HRK.out; simp only [rankP] at this ⊢; exact this
      · simp only [if_true] at hR
        subst hR
        go_wp2_with fail
        refine HC.out.mono ?_
        rintro e w3 ⟨rfl, rfl⟩
        clear HC
        go_wp2
        refine bodyPost_ret (v := useV at' (s.at', sure)) ?_ rfl ⟨rfl, set3 (HB.out.setCell (p := ⟨w.heap.size + 1, 1, none⟩) (by simp) _) (Nat.le_refl _) _ _ _⟩
        simp [results, Tryz.results143, go_sem, useV, e0, e1, e2]
end Go.Proofs.YtgifgiipojedbaaGreatDoor

namespace Go.Proofs.YtgifgiipojedbaaGreatDoor
open Go Go.RowKit
set_option maxRecDepth 100000
set_option linter.unusedVariables false

/-- a text behind others, in their own row -/
theorem texts_push {w2 : World} {B : Nat} {v2 : Value} {l : List ByteArray} {s : ByteArray} (h : w2.ownsRow B 9 1 v2 (l.length + 1) (l.map Value.string ++ [.string s])) : Texts w2 B v2 (l ++ [s]) := by
  unfold Texts
  rw [List.length_append, List.map_append]
  exact h

set_option maxHeartbeats 8000000 in
theorem wlets_any (w : World) (B0 : Nat) (a : ATree) (hT : TreeAt w B0 a) (hn : a.kids.length < 1099511627776) :
    Calls Tryz.prog 63 #[a.ptr] w fun e w' => ∃ v, e = .returned v ∧ Texts w' w.heap.size v ((a.kids.filter isLet).map ATree.text) ∧ Below w.heap.size w w' := by
  obtain ⟨i0, hi, hz0, hz1, hz2⟩ := info_parts Tryz.infoStr
  have HL := Lib.hid (lets_any w B0 a hT hn)
  have hle : (a.kids.filter isLet).length ≤ a.kids.length := List.length_filter_le _ _
  have hlk : ∀ x, x ∈ a.kids.filter isLet → x ∈ a.kids := fun x hx => (List.mem_filter.1 hx).1
  have HLK := Lib.hid hlk
  have HT := Lib.hid hT
  obtain ⟨Q, hQ⟩ : ∃ Q, Q = a.kids.filter isLet := ⟨_, rfl⟩
  rw [← hQ] at HL hle HLK ⊢
  clear hQ hlk hT
  unfold ATree.ptr at HL ⊢
  go_enter Tryz.func63, Tryz.ntmps63
  go_wp2_with fail
  refine HL.out.mono ?_
  rintro e w2 ⟨v2, rfl, hn2, hb2⟩
  obtain ⟨p2, cp2, rfl, hge2, hmx2⟩ : ∃ p cp, v2 = .slice p Q.length cp ∧ Q.length ≤ cp ∧ cp ≤ maxLen := by
    rcases hn2.form with ⟨h1, h2⟩ | ⟨g, cap, h1, h2, h3⟩
    · exact ⟨none, 0, by rw [h1, h2]; rfl, by rw [h2]; exact Nat.le_refl _, by unfold maxLen; omega⟩
    · exact ⟨_, _, h1, h2, h3⟩
  have HB2 := Lib.hid hb2
  have N2 := Lib.hid hn2
  obtain ⟨q, hq1⟩ : ∃ q, q = Q.length := ⟨_, rfl⟩
  have hqq : q ≤ 9223372036854775807 := by unfold maxLen at hmx2; omega
  rw [← hq1] at hge2 N2 hle ⊢
  have HQ1 := Lib.hid hq1
  clear hn2 hb2 hq1 HL
  go_wp2_with fail
  go_loopw [3, 9] (fun v i wr => ∃ (k : Nat) (v' : Value), v' = v ∧ k ≤ q ∧ i = .int .i64 k ∧ Hid (Texts wr w.heap.size v' ((Q.take k).map ATree.text)) ∧ Hid (Nodes wr w.heap.size (.slice p2 q cp2) Q) ∧ Hid (Below w.heap.size w wr)) (fun _ i _ => q - (intOf i).toNat)
  case atStart => exact ⟨0, _, rfl, Nat.zero_le _, rfl, Lib.hid (Texts.nil _ _), N2, HB2⟩
  case round =>
    obtain ⟨k, v, rfl, hk, rfl, TX, NO, HB⟩ := hrel
    clear N2 HB2
    by_cases hkn : k < q
    · obtain ⟨x, hx⟩ : ∃ x, Q[k]? = some x := ⟨_, List.getElem?_eq_getElem (by rw [← HQ1.out]; exact hkn)⟩
      obtain ⟨g0, hp⟩ : ∃ g, p2 = some ⟨g, 0, none⟩ := by
        rcases NO.out.form with ⟨h1, h2⟩ | ⟨g, cap, h1, _⟩
        · rw [h2] at hx; simp at hx
        · simp only [Value.slice.injEq] at h1; exact ⟨g, h1.1⟩
      subst hp
      have cx := NO.out.cell rfl hx
      have hTx := (HT.out.bel HB.out).kid (HLK.out x (List.mem_of_getElem? hx))
      have c1 := hTx.c1
      have hsz := HB.out.size
      have HX := Lib.hid hx
      obtain ⟨L, hL⟩ : ∃ L, L = (Q.take k).map ATree.text := ⟨_, rfl⟩
      have hll : L.length ≤ k := by rw [hL]; simp; omega
      rw [← hL] at TX
      have HLL := Lib.hid hL
      have TX2 := TX
      unfold Texts at TX
      clear hTx hx hL
      go_wp2_with (at_builtin; go_must (refine wpList_append_lies _ rfl (.tmp 13) (.tmp 18) 45 rfl w.heap.size 9 i0 (.string ByteArray.empty) 1 16 Tryz.underlying45 hi hz0 hz1 hz2 rfl (by decide) v L.length (L.map Value.string) rfl (TX.out.alloc _) ⟨wr.heap.size, 0, none⟩ 1 1 [.string x.text] rfl rfl (fun j u hu => cell_one_new wr _ _ j u hu) (by intro u hu; simp at hu; subst hu; rfl) (by first | omega | (simp; omega)) (by unfold maxLen; omega) (by first | omega | (simp; omega)) (by first | omega | (simp; omega)) (wr.heap.size + 1) (by simp) ?_); intro g cap w3 hown2 hgrow2 hat2 hgl2; have HG := Lib.hid hgrow2; have HW := Lib.hid hown2; clear hgrow2 hown2 hat2 hgl2)
      go_roundw
      case rel =>
        refine ⟨k + 1, _, rfl, by omega, by go_num, Lib.hid ?_, Lib.hid ?_, Lib.hid ?_⟩
        · rw [take_succ_kid HX.out, List.map_append, ← HLL.out]
          exact texts_push HW.out
        · exact NO.out.far TX2.out fun j hj hv => (HG.out.block j (by simp; omega) (fun e => hv e.symm)).trans (Below.heap_alloc _ _ _ hj)
        · exact (HB.out.alloc hsz _).grown HG.out (by simp; omega) fun j hj => (World.ownsRow.lt TX.out j hj).1
      case measure => simp [intOf]; omega
    · have hk2 : k = q := by omega
      subst hk2
      go_wp2
      go_ret
      refine ⟨_, rfl, ?_, HB.out⟩
      have := TX.out
      rwa [List.take_of_length_le (by rw [← HQ1.out]; exact Nat.le_refl _)] at this
end Go.Proofs.YtgifgiipojedbaaGreatDoor

namespace Go.Proofs.YtgifgiipojedbaaGreatDoor
open Go Go.RowKit
set_option maxRecDepth 100000
set_option linter.unusedVariables false

structure Us where
  at' : Int
  r : Int × Bool
def Us.cells (u : Us) : List Value := [.int .i64 u.at', .int .i64 u.r.1, .bool u.r.2]
def s_arguments : ByteArray := ⟨#[97, 114, 103, 117, 109, 101, 110, 116, 115]⟩
mutual
/-- what the finder tells of a program -/
def nodeF (N : Nat → Nat) : ATree → List Sc → Bool → List Us
  | .mk b v k t n ks, S, st =>
    if k = 23 then [⟨N b, lookF t S true⟩]
    else if k = 6 then kidsF N ks (if namesF false (.mk b v k t n ks) = [] then S else ⟨N b, namesF false (.mk b v k t n ks), false⟩ :: S) st
    else if k = 13 then kidsF N ks (⟨N b, [t], false⟩ :: S) st
    else if k = 9 then (match ks with
      | x :: y :: _ => nodeF N x S st ++ nodeF N y (⟨-2, [], true⟩ :: S) st
      | _ => [])
    else if k = 5 ∨ k = 37 then (match ks with
      | ps :: .mk b2 v2 k2 t2 n2 bks :: _ =>
        kidsF N bks (⟨N b, s_arguments :: (ps.kids.map ATree.text ++ namesF true (.mk b2 v2 k2 t2 n2 bks)), !(st || isStrict (.mk b2 v2 k2 t2 n2 bks)) && evalsF (.mk b2 v2 k2 t2 n2 bks)⟩ :: (if k = 37 ∧ t ≠ ByteArray.empty then ⟨N b, [t], false⟩ :: S else S)) (st || isStrict (.mk b2 v2 k2 t2 n2 bks))
      | _ => [])
    else kidsF N ks S st
def kidsF (N : Nat → Nat) : List ATree → List Sc → Bool → List Us
  | [], _, _ => []
  | a :: l, S, st => nodeF N a S st ++ kidsF N l S st
end
theorem kidsF_snoc (N : Nat → Nat) (l : List ATree) (a : ATree) (S : List Sc) (st : Bool) : kidsF N (l ++ [a]) S st = kidsF N l S st ++ nodeF N a S st := by
  induction l with
  | nil => simp [kidsF]
  | cons x l ih => simp only [List.cons_append, kidsF, ih, List.append_assoc]

/-- what the finder leaves alone -/
structure FFr (w w' : World) : Prop where
  size : w.heap.size ≤ w'.heap.size
  cells : ∀ (k : Nat) (c : Array Value) (t : TypeId) (f : Nat × Nat), w.heap[k]? = some (.cells c t f) → t ≠ 84 → t ≠ 57 → w'.heap[k]? = w.heap[k]?
  map : ∀ (k : Nat) (es : Array MapEntry) (c : Nat), w.heap[k]? = some (.map es c) → w'.heap[k]? = w.heap[k]?
theorem FFr.refl (w : World) : FFr w w := ⟨Nat.le_refl _, fun _ _ _ _ _ _ _ => rfl, fun _ _ _ _ => rfl⟩
theorem FFr.trans {w w1 w2 : World} (h : FFr w w1) (g : FFr w1 w2) : FFr w w2 :=
  ⟨Nat.le_trans h.size g.size, fun k c t f hk h1 h2 => (g.cells k c t f ((h.cells k c t f hk h1 h2).trans hk) h1 h2).trans (h.cells k c t f hk h1 h2),
    fun k es c hk => (g.map k es c ((h.map k es c hk).trans hk)).trans (h.map k es c hk)⟩
theorem FFr.bel {w w' : World} (h : Below w.heap.size w w') : FFr w w' :=
  ⟨h.size, fun k _ _ _ hk _ _ => h.block k (Array.getElem?_eq_some_iff.1 hk).1, fun k _ _ hk => h.block k (Array.getElem?_eq_some_iff.1 hk).1⟩
theorem Texts.ffr {w w' : World} {B : Nat} {v : Value} {l : List ByteArray} (h : Texts w B v l) (g : FFr w w') : Texts w' B v l := by
  refine ownsRow_block h fun k hk => ?_
  obtain ⟨c, f, hb⟩ := Lib.ownsRow_kind h k hk
  exact g.cells k _ _ _ hb (by decide) (by decide)
theorem ScopeAt.ffr {w w' : World} {B : Nat} {l : List Sc} {v : Value} (h : ScopeAt w B l v) (g : FFr w w') : ScopeAt w' B l v :=
  h.keep (fun k c t hk ht => by subst ht; exact g.cells k _ _ _ hk (by decide) (by decide)) fun v l h => h.ffr g
/-- the finder: its map of numbers, what it has told -/
structure FSt (w0 : World) (fb mb : Nat) (N : Nat → Nat) (L : List (Nat × Nat)) (out : List Us) (w : World) : Prop where
  bel : Below w0.heap.size w0 w
  cell : ∃ ov, w.heap[fb]? = some (.cells #[.map (some mb), ov] 84 (0, 0)) ∧ w.ownsRow w0.heap.size 57 3 ov out.length (out.flatMap Us.cells)
  le : w0.heap.size ≤ fb
  map : PMap w mb L
  has : ∀ x ∈ L, Cells w0 x.1
  nodup : (L.map (·.1)).Nodup
/-- a node's walk -/
def NodeSays (w0 : World) (fb mb : Nat) (N : Nat → Nat) (L : List (Nat × Nat)) (Ok : ATree → Prop) (m : Nat) : Prop :=
  ∀ (a : ATree) (B : Nat) (w : World) (S : List Sc) (sv : Value) (st : Bool) (out : List Us), a.many ≤ m → Ok a → TreeAt w0 B a → (∀ x ∈ a.subs, (x.b, N x.b) ∈ L) → out.length + a.many < 274877906944 → FSt w0 fb mb N L out w → ScopeAt w w0.heap.size S sv →
    Calls Tryz.prog 98 #[.pointer (some ⟨fb, 0, none⟩), a.ptr, sv, .bool st] w fun e w' => e = .returned (.tuple #[]) ∧ FSt w0 fb mb N L (out ++ nodeF N a S st) w' ∧ FFr w w' ∧ (nodeF N a S st).length ≤ a.many
def KidsSays (w0 : World) (fb mb : Nat) (N : Nat → Nat) (L : List (Nat × Nat)) (Ok : ATree → Prop) (m : Nat) : Prop :=
  ∀ (a : ATree) (B : Nat) (w : World) (S : List Sc) (sv : Value) (st : Bool) (out : List Us), a.many ≤ m + 1 → (∀ k ∈ a.kids, Ok k) → TreeAt w0 B a → (∀ x ∈ a.subs, (x.b, N x.b) ∈ L) → out.length + a.many < 274877906944 → FSt w0 fb mb N L out w → ScopeAt w w0.heap.size S sv →
    Calls Tryz.prog 62 #[.pointer (some ⟨fb, 0, none⟩), a.ptr, sv, .bool st] w fun e w' => e = .returned (.tuple #[]) ∧ FSt w0 fb mb N L (out ++ kidsF N a.kids S st) w' ∧ FFr w w' ∧ (kidsF N a.kids S st).length + 1 ≤ a.many
theorem manyLA_at {l : List ATree} {i : Nat} {k : ATree} (h : l[i]? = some k) : manyLA (l.take i) + k.many ≤ manyLA l := by
  have h1 := congrArg List.length (subsL_at h)
  simp only [List.length_append, subsL_len, subs_length] at h1
  omega

set_option maxHeartbeats 8000000 in
theorem kids_says {w0 : World} {fb mb : Nat} {N : Nat → Nat} {L : List (Nat × Nat)} {Ok : ATree → Prop} {m : Nat} (hN : NodeSays w0 fb mb N L Ok m) : KidsSays w0 fb mb N L Ok m := by
  intro a B w S sv st out hm hok hT hnum hlen hF hS
  have hTw : TreeAt w B a := hT.keep fun k _ hk => hF.bel.block k hk
  obtain ⟨p, cp, hv, hge, hmx⟩ := hTw.vOf
  have c3 : w.cell? ⟨a.b, 3, none⟩ = some (.slice p a.kids.length cp) := by rw [← hv]; exact hTw.c3
  have hlen2 : a.kids.length ≤ 9223372036854775807 := by unfold maxLen at hmx; omega
  obtain ⟨pp, rfl⟩ := hS.ptr
  have HNS := Lib.hid hN
  have HT := Lib.hid hT
  have HV := Lib.hid hv
  have HF := Lib.hid hF
  have HS := Lib.hid hS
  have HOK := Lib.hid hok
  have HNUM := Lib.hid hnum
  have hkl := kids_le a
  have hml : a.many = manyLA a.kids + 1 := by obtain ⟨b, v, k, t, n, ks⟩ := a; rfl
  unfold ATree.ptr
  obtain ⟨n, hnn⟩ : ∃ n, n = a.kids.length := ⟨_, rfl⟩
  rw [← hnn] at c3 hlen2 hge
  have HN := Lib.hid hnn
  have HML := Lib.hid hml
  have HM := Lib.hid hm
  have HLEN := Lib.hid hlen
  clear hTw hv hnn hT hN hF hS hok hnum hml hm hlen hkl
  go_enter Tryz.func62, Tryz.ntmps62
  go_wp2_with fail
  go_loopw [15] (fun i wr => ∃ (k : Nat), k ≤ n ∧ i = .int .i64 k ∧ Hid (FSt w0 fb mb N L (out ++ kidsF N (a.kids.take k) S st) wr) ∧ Hid (FFr w wr) ∧ Hid ((kidsF N (a.kids.take k) S st).length ≤ manyLA (a.kids.take k))) (fun i _ => n - (intOf i).toNat)
  case atStart => exact ⟨0, Nat.zero_le _, rfl, Lib.hid (by simpa [kidsF] using HF.out), Lib.hid (FFr.refl _), Lib.hid (by simp [kidsF])⟩
  case round =>
    obtain ⟨k, hk, rfl, HI, HR, HL⟩ := hrel
    by_cases hkn : k < n
    · obtain ⟨x, hx⟩ : ∃ x, a.kids[k]? = some x := ⟨_, List.getElem?_eq_getElem (by rw [← HN.out]; exact hkn)⟩
      have hT2 : TreeAt wr B a := HT.out.keep fun k _ hk => HI.out.bel.block k hk
      have hrow := hT2.rowOf
      rcases ownsRow_cases hrow with ⟨_, h2⟩ | ⟨g0, cap0, hv0, _⟩
      · rw [← HN.out] at h2; omega
      have hp : p = some ⟨g0, 0, none⟩ := by
        have := HV.out.symm.trans hv0
        simp only [Value.slice.injEq] at this
        exact this.1
      subst hp
      have cx := ownsRow_cell1 hrow (g := g0) (by rw [hv0]; rfl) (i := k) (x := x.ptr) (by rw [List.getElem?_map, hx]; rfl)
      have hmem : x ∈ a.kids := List.mem_of_getElem? hx
      have hma := manyLA_at hx
      have hcall := HNS.out x B wr S (.pointer pp) st _ (by have := many_kid hmem; have := HM.out; omega) (HOK.out x hmem) (HT.out.kid hmem) (fun y hy => HNUM.out y (subs_kid hmem hy)) (by rw [List.length_append]; have := HL.out; have := HML.out; have := HLEN.out; omega) HI.out (HS.out.ffr HR.out)
      unfold ATree.ptr at cx hcall
      have HCALL := Lib.hid hcall
      have HX := Lib.hid hx
      have HMA := Lib.hid hma
      clear hT2 hrow hv0 hx hcall hmem hma
      go_wp2_with fail
      refine HCALL.out.mono ?_
      rintro e w1 ⟨rfl, hI1, hR1, hL1⟩
      have HI1 := Lib.hid hI1
      have HR1 := Lib.hid (HR.out.trans hR1)
      have HL1 := Lib.hid hL1
      clear hI1 hR1 hL1 HCALL
      go_wp2
      go_roundw
      case rel =>
        refine ⟨k + 1, by omega, by go_num, Lib.hid ?_, HR1, Lib.hid ?_⟩
        · rw [take_succ_kid HX.out, kidsF_snoc, ← List.append_assoc]; exact HI1.out
        · rw [take_succ_kid HX.out, kidsF_snoc, List.length_append]
          have h1 := HL.out
          have h2 := HL1.out
          have h3 : manyLA (a.kids.take k ++ [x]) = manyLA (a.kids.take k) + x.many := by
            rw [← subsL_len, subsL_app, List.length_append, subsL_len]
            simp only [subsL, List.append_nil, subs_length]
          omega
      case measure => simp [intOf]; omega
    · have hk2 : k = n := by omega
      subst hk2
      have hall : a.kids.take k = a.kids := List.take_of_length_le (by rw [← HN.out]; exact Nat.le_refl _)
      have HALL := Lib.hid hall
      clear hall
      go_wp2
      go_end0
      have h1 := HI.out
      have h2 := HL.out
      rw [HALL.out] at h1 h2
      exact ⟨rfl, h1, HR.out, by have := HML.out; omega⟩
end Go.Proofs.YtgifgiipojedbaaGreatDoor

namespace Go.Proofs.YtgifgiipojedbaaGreatDoor
open Go Go.RowKit
set_option maxRecDepth 100000
set_option linter.unusedVariables false

def bannedF (st : Bool) (s : ByteArray) : Bool := st && (sameS s s_evalW || sameS s s_arguments)
/-- a text comes again -/
def twiceF : List ByteArray → List ByteArray → Bool
  | _, [] => false
  | seen, s :: l => Lib.containsS seen s || twiceF (seen ++ [s]) l
/-- a function's name stands among these already -/
def funcsF (lets vars : List ByteArray) (body : Bool) : List ByteArray → List ByteArray → Bool
  | _, [] => false
  | prev, s :: l => Lib.containsS lets s || (!body && (prev.any (fun o => sameS o s) || Lib.containsS vars s)) || funcsF lets vars body (prev ++ [s]) l
def letsT (a : ATree) : List ByteArray := (a.kids.filter isLet).map ATree.text
def funcsT (a : ATree) : List ByteArray := (a.kids.filter isFunc).map ATree.text
/-- scope finds a name twice -/
def scopeF (a : ATree) (body : Bool) : Bool :=
  twiceF [] (letsT a) || funcsF (letsT a) (varsF a) body [] (funcsT a) || (varsF a).any (fun s => Lib.containsS (letsT a) s)
def aloneF (a : ATree) : Bool := !(a.kind == 3) && !(a.kind == 4) && !(a.kind == 5)
def paramsE (st : Bool) : List ByteArray → List ByteArray → Int
  | _, [] => 0
  | seen, s :: l => if bannedF st s then 5 else if st && Lib.containsS seen s then 9 else paramsE st (seen ++ [s]) l
/-- what is wrong with a function ahead of its body -/
def funcE (st : Bool) (t : ByteArray) (ps : List ByteArray) (bd : ATree) : Int :=
  if bannedF st t then 5 else if paramsE st [] ps ≠ 0 then paramsE st [] ps else if (letsT bd).any (fun s => Lib.containsS ps s) then 9 else if scopeF bd true then 9 else 0
mutual
def nodeE : ATree → Bool → Bool → Int
  | .mk b v k t n ks, st, ins =>
    if k = 2 ∨ k = 3 ∨ k = 4 ∨ k = 13 then
      (if bannedF st t then 5 else if k = 13 ∧ (match ks with | x :: _ => (namesF false x).any (fun s => sameS s t) | [] => false) = true then 9 else kidsE ks st ins)
    else if k = 5 ∨ k = 37 then (match ks with
      | ps :: .mk b2 v2 k2 t2 n2 bks :: _ =>
        (if funcE (st || isStrict (.mk b2 v2 k2 t2 n2 bks)) t (ps.kids.map ATree.text) (.mk b2 v2 k2 t2 n2 bks) ≠ 0 then funcE (st || isStrict (.mk b2 v2 k2 t2 n2 bks)) t (ps.kids.map ATree.text) (.mk b2 v2 k2 t2 n2 bks)
        else kidsE bks (st || isStrict (.mk b2 v2 k2 t2 n2 bks)) true)
      | _ => 0)
    else if k = 6 then (if scopeF (.mk b v k t n ks) false then 9 else kidsE ks st ins)
    else if k = 7 ∨ k = 8 ∨ k = 9 then (if (k == 9 && st) || (ks.drop 1).any (fun x => !aloneF x) then 1 else kidsE ks st ins)
    else if k = 10 then (if ins then kidsE ks st ins else 6)
    else if k = 24 then (if (match ks with | x :: _ => x.kind == 23 && bannedF st x.text | [] => false) = true then 5 else kidsE ks st ins)
    else if k = 34 then (if (match ks with | x :: _ => st && x.kind == 23 | [] => false) = true then 1 else kidsE ks st ins)
    else kidsE ks st ins
def kidsE : List ATree → Bool → Bool → Int
  | [], _, _ => 0
  | a :: l, st, ins => if nodeE a st ins ≠ 0 then nodeE a st ins else kidsE l st ins
end
/-- what Check says -/
def checkE (a : ATree) (st ins : Bool) : Int :=
  if scopeF a true then 9 else kidsE a.kids (st || isStrict a) ins

theorem banned_less {st st' : Bool} (h : st' = true → st = true) {s : ByteArray} (hb : bannedF st s = false) : bannedF st' s = false := by
  cases st' with
  | false => rfl
  | true => rw [h rfl] at hb; exact hb
theorem params_less {st st' : Bool} (h : st' = true → st = true) : ∀ (l seen : List ByteArray), paramsE st seen l = 0 → paramsE st' seen l = 0 := by
  intro l
  induction l with
  | nil => intro seen _; rfl
  | cons s l ih =>
    intro seen hp
    unfold paramsE at hp ⊢
    by_cases hb : bannedF st s = true
    · rw [if_pos hb] at hp; cases hp
    rw [if_neg hb] at hp
    rw [if_neg (by rw [banned_less h (by simpa using hb)]; simp)]
    by_cases hc : (st && Lib.containsS seen s) = true
    · rw [if_pos hc] at hp; cases hp
    rw [if_neg hc] at hp
    rw [if_neg ?_]
    · exact ih _ hp
    · intro h2
      simp only [Bool.and_eq_true] at h2 hc
      exact hc ⟨h h2.1, h2.2⟩
theorem func_less {st st' : Bool} (h : st' = true → st = true) {t : ByteArray} {ps : List ByteArray} {bd : ATree} (hf : funcE st t ps bd = 0) : funcE st' t ps bd = 0 := by
  unfold funcE at hf ⊢
  by_cases hb : bannedF st t = true
  · rw [if_pos hb] at hf; cases hf
  rw [if_neg hb] at hf
  rw [if_neg (by rw [banned_less h (by simpa using hb)]; simp)]
  by_cases hp : paramsE st [] ps ≠ 0
  · rw [if_pos hp] at hf; exact absurd hf hp
  rw [if_neg hp] at hf
  rw [if_neg (by rw [params_less h _ _ (by simpa using hp)]; simp)]
  exact hf
theorem kidsE_less {l : List ATree} {st ins st' ins' : Bool} (h : ∀ a ∈ l, nodeE a st ins = 0 → nodeE a st' ins' = 0) (hk : kidsE l st ins = 0) : kidsE l st' ins' = 0 := by
  induction l with
  | nil => rfl
  | cons a l ih =>
    unfold kidsE at hk ⊢
    by_cases hn : nodeE a st ins ≠ 0
    · rw [if_pos hn] at hk; exact absurd hk hn
    rw [if_neg hn] at hk
    rw [if_neg (by rw [h a (by simp) (by simpa using hn)]; simp)]
    exact ih (fun x hx => h x (by simp [hx])) hk
theorem if0 {c : Prop} [Decidable c] {n m : Int} (hn : n ≠ 0) (h : (if c then n else m) = 0) : ¬ c ∧ m = 0 := by
  by_cases hc : c
  · rw [if_pos hc] at h; exact absurd h hn
  · rw [if_neg hc] at h; exact ⟨hc, h⟩
theorem nodeE_less : ∀ (m : Nat) (a : ATree), a.many ≤ m → ∀ {st ins st' ins' : Bool}, (st' = true → st = true) → (ins = true → ins' = true) → nodeE a st ins = 0 → nodeE a st' ins' = 0 := by
  intro m
  induction m with
  | zero => intro a h; obtain ⟨b, v, k, t, n, ks⟩ := a; simp [ATree.many] at h
  | succ m ih =>
    intro a hm st ins st' ins' hst hins hE
    have hk : ∀ x ∈ a.kids, x.many ≤ m := fun x hx => by have := many_kid hx; omega
    obtain ⟨b, v, k, t, n, ks⟩ := a
    simp only [ATree.kids] at hk
    have HK : kidsE ks st ins = 0 → kidsE ks st' ins' = 0 := kidsE_less fun x hx => ih x (hk x hx) hst hins
    rw [nodeE.eq_def] at hE ⊢
    simp only [] at hE ⊢
    by_cases h1 : k = 2 ∨ k = 3 ∨ k = 4 ∨ k = 13
    · rw [if_pos h1] at hE ⊢
      obtain ⟨hb, hE⟩ := if0 (by decide) hE
      obtain ⟨hc, hE⟩ := if0 (by decide) hE
      rw [if_neg (by rw [banned_less hst (by simpa using hb)]; simp), if_neg hc]
      exact HK hE
    rw [if_neg h1] at hE ⊢
    by_cases h2 : k = 5 ∨ k = 37
    · rw [if_pos h2] at hE ⊢
      match ks, hk, hE with
      | [], _, _ => rfl
      | [_], _, _ => rfl
      | ps :: .mk b2 v2 k2 t2 n2 bks :: r, hk, hE =>
        have hb := hk (.mk b2 v2 k2 t2 n2 bks) (by simp)
        simp only [] at hE ⊢
        have hs2 : (st' || isStrict (.mk b2 v2 k2 t2 n2 bks)) = true → (st || isStrict (.mk b2 v2 k2 t2 n2 bks)) = true := fun h => by
          simp only [Bool.or_eq_true] at h ⊢
          exact h.imp hst id
        by_cases hf : funcE (st || isStrict (.mk b2 v2 k2 t2 n2 bks)) t (ps.kids.map ATree.text) (.mk b2 v2 k2 t2 n2 bks) ≠ 0
        · rw [if_pos hf] at hE; exact absurd hE hf
        rw [if_neg hf] at hE
        rw [if_neg (by rw [func_less hs2 (by simpa using hf)]; simp)]
        refine kidsE_less (fun x hx => ih x ?_ hs2 (fun _ => rfl)) hE
        have : x.many < (ATree.mk b2 v2 k2 t2 n2 bks).many := many_kid (a := .mk b2 v2 k2 t2 n2 bks) hx
        omega
    rw [if_neg h2] at hE ⊢
    by_cases h3 : k = 6
    · rw [if_pos h3] at hE ⊢
      obtain ⟨hb, hE⟩ := if0 (by decide) hE
      rw [if_neg hb]
      exact HK hE
    rw [if_neg h3] at hE ⊢
    by_cases h4 : k = 7 ∨ k = 8 ∨ k = 9
    · rw [if_pos h4] at hE ⊢
      obtain ⟨hb, hE⟩ := if0 (by decide) hE
      rw [if_neg ?_]
      · exact HK hE
      · intro h
        refine hb ?_
        simp only [Bool.or_eq_true, Bool.and_eq_true] at h ⊢
        exact h.imp (fun h => ⟨h.1, hst h.2⟩) id
    rw [if_neg h4] at hE ⊢
    by_cases h5 : k = 10
    · rw [if_pos h5] at hE ⊢
      cases ins with
      | false => rw [if_neg (by simp)] at hE; cases hE
      | true =>
        rw [if_pos rfl] at hE
        rw [if_pos (hins rfl)]
        exact HK hE
    rw [if_neg h5] at hE ⊢
    by_cases h6 : k = 24
    · rw [if_pos h6] at hE ⊢
      obtain ⟨hb, hE⟩ := if0 (by decide) hE
      rw [if_neg ?_]
      · exact HK hE
      · intro h
        refine hb ?_
        cases ks with
        | nil => cases h
        | cons x r =>
          simp only [Bool.and_eq_true] at h ⊢
          refine ⟨h.1, ?_⟩
          cases hs : bannedF st x.text with
          | true => rfl
          | false => rw [banned_less hst hs] at h; exact absurd h.2 (by simp)
    rw [if_neg h6] at hE ⊢
    by_cases h7 : k = 34
    · rw [if_pos h7] at hE ⊢
      obtain ⟨hb, hE⟩ := if0 (by decide) hE
      rw [if_neg ?_]
      · exact HK hE
      · intro h
        refine hb ?_
        cases ks with
        | nil => cases h
        | cons x r =>
          simp only [Bool.and_eq_true] at h ⊢
          exact ⟨hst h.1, h.2⟩
    rw [if_neg h7] at hE ⊢
    exact HK hE
/-- LOOSER CODE IS RIGHT WHERE STRICTER CODE IS -/
theorem checkE_less {a : ATree} {st ins st' ins' : Bool} (hst : st' = true → st = true) (hins : ins = true → ins' = true) (h : checkE a st ins = 0) : checkE a st' ins' = 0 := by
  unfold checkE at h ⊢
  obtain ⟨hb, h⟩ := if0 (by decide) h
  rw [if_neg hb]
  refine kidsE_less (fun x hx => nodeE_less _ x (Nat.le_refl _) ?_ hins) h
  intro h'
  simp only [Bool.or_eq_true] at h' ⊢
  exact h'.imp hst id
end Go.Proofs.YtgifgiipojedbaaGreatDoor

namespace Go.Proofs.YtgifgiipojedbaaGreatDoor
open Go Go.RowKit
set_option maxRecDepth 100000
set_option linter.unusedVariables false

theorem ne_lit {s : ByteArray} {l : ByteArray} {t : List UInt8} (hl : l.toList = t) (h : s ≠ l) : (s.toList == t) = false := by
  have : (s.toList == l.toList) = false := by rw [toList_beq]; simp [sameS, h]
  rwa [hl] at this
theorem eval_list : s_evalW.toList = [101, 118, 97, 108] := by kernel_rfl
theorem arguments_list : s_arguments.toList = [97, 114, 103, 117, 109, 101, 110, 116, 115] := by kernel_rfl

set_option maxHeartbeats 4000000 in
theorem banned_any (w : World) (st ins : Bool) (s : ByteArray) :
    Calls Tryz.prog 122 #[.agg #[.bool st, .bool ins], .string s] w fun e w' => e = .returned (.bool (bannedF st s)) ∧ Below w.heap.size w w' := by
  have HB := Lib.hid ((Below.refl w.heap.size w).alloc (Nat.le_refl _) (.cells #[.bool st, .bool ins] 69))
  unfold bannedF
  cases st
  · go_enter Tryz.func122, Tryz.ntmps122
    go_wp2
    go_ret
    exact ⟨rfl, HB.out⟩
  · by_cases h1 : s = s_evalW
    · subst h1
      rw [show sameS s_evalW s_evalW = true by simp [sameS]]
      unfold s_evalW
      go_enter Tryz.func122, Tryz.ntmps122
      go_wp2
      go_ret
      exact ⟨rfl, HB.out⟩
    · have n1 := ne_lit eval_list h1
      rw [show sameS s s_evalW = false by simp [sameS, h1]]
      clear h1
      by_cases h2 : s = s_arguments
      · subst h2
        rw [show sameS s_arguments s_arguments = true by simp [sameS]]
        unfold s_arguments
        clear n1
        go_enter Tryz.func122, Tryz.ntmps122
        go_wp2
        go_ret
        exact ⟨rfl, HB.out⟩
      · have n2 := ne_lit arguments_list h2
        rw [show sameS s s_arguments = false by simp [sameS, h2]]
        clear h2
        go_enter Tryz.func122, Tryz.ntmps122
        go_wp2
        go_ret
        exact ⟨rfl, HB.out⟩
set_option maxHeartbeats 4000000 in
theorem alone_any (w : World) (B : Nat) (a : ATree) (hT : TreeAt w B a) :
    Calls Tryz.prog 126 #[a.ptr] w fun e w' => e = .returned (.bool (aloneF a)) ∧ w' = w := by
  have c0 := hT.c0
  unfold aloneF ATree.ptr
  obtain ⟨kd, hkd⟩ : ∃ kd, kd = a.kind := ⟨_, rfl⟩
  rw [← hkd] at c0 ⊢
  clear hkd hT
  rcases (by omega : kd = 3 ∨ kd = 4 ∨ kd = 5 ∨ (kd ≠ 3 ∧ kd ≠ 4 ∧ kd ≠ 5)) with h3 | h3 | h3 | ⟨h3, h4, h5⟩
  · subst h3
    go_enter Tryz.func126, Tryz.ntmps126
    go_wp2
    go_ret
    exact ⟨rfl, rfl⟩
  · subst h3
    go_enter Tryz.func126, Tryz.ntmps126
    go_wp2
    go_ret
    exact ⟨rfl, rfl⟩
  · subst h3
    go_enter Tryz.func126, Tryz.ntmps126
    go_wp2
    go_ret
    exact ⟨rfl, rfl⟩
  · have n3 : (kd == 3) = false := by simpa using h3
    have n4 : (kd == 4) = false := by simpa using h4
    have n5 : (kd == 5) = false := by simpa using h5
    rw [n3, n4, n5]
    have m3 : (kd != 3) = true := by simpa using h3
    have m4 : (kd != 4) = true := by simpa using h4
    have m5 : (kd != 5) = true := by simpa using h5
    clear h3 h4 h5 n3 n4 n5
    go_enter Tryz.func126, Tryz.ntmps126
    go_wp2
    go_ret
    exact ⟨rfl, rfl⟩
set_option maxHeartbeats 4000000 in
theorem node2_any (w : World) (B : Nat) (a : ATree) (hT : TreeAt w B a) :
    Calls Tryz.prog 125 #[a.ptr] w fun e w' => e = .returned (.bool (!aloneF a)) ∧ w' = w := by
  have HA := Lib.hid (alone_any w B a hT)
  unfold ATree.ptr at HA ⊢
  obtain ⟨al, hal⟩ : ∃ x, x = aloneF a := ⟨_, rfl⟩
  rw [← hal] at HA ⊢
  clear hT hal
  go_enter Tryz.func125, Tryz.ntmps125
  go_wp2_with fail
  refine HA.out.mono ?_
  rintro e w' ⟨rfl, rfl⟩
  go_wp2
  go_ret
  exact ⟨rfl, rfl⟩
set_option maxHeartbeats 4000000 in
theorem node1_any (w : World) (B c : Nat) (a : ATree) (s : ByteArray) (hT : TreeAt w B a) (hc : w.cell? ⟨c, 0, none⟩ = some a.ptr) :
    Calls Tryz.prog 123 #[.string s, .pointer (some ⟨c, 0, none⟩)] w fun e w' => e = .returned (.bool (sameS s a.text)) ∧ w' = w := by
  have c1 := hT.c1
  unfold ATree.ptr at hc
  rw [← toList_beq]
  obtain ⟨tx, htx⟩ : ∃ tx, tx = a.text := ⟨_, rfl⟩
  rw [← htx] at c1 ⊢
  clear hT htx
  go_enter Tryz.func123, Tryz.ntmps123
  go_wp2
  go_ret
  exact ⟨rfl, rfl⟩
set_option maxHeartbeats 4000000 in
theorem scope1_any (w : World) (B c : Nat) (x k : ATree) (hx : TreeAt w B x) (hk : TreeAt w B k) (hc : w.cell? ⟨c, 0, none⟩ = some k.ptr) :
    Calls Tryz.prog 85 #[x.ptr, .pointer (some ⟨c, 0, none⟩)] w fun e w' => e = .returned (.bool (sameS x.text k.text)) ∧ Below w.heap.size w w' := by
  have x1 := hx.c1
  have k1 := hk.c1
  unfold ATree.ptr at hc ⊢
  rw [← toList_beq]
  obtain ⟨tx, htx⟩ : ∃ tx, tx = x.text := ⟨_, rfl⟩
  obtain ⟨tk, htk⟩ : ∃ tk, tk = k.text := ⟨_, rfl⟩
  rw [← htx] at x1 ⊢
  rw [← htk] at k1 ⊢
  clear hx hk htx htk
  go_enter Tryz.func85, Tryz.ntmps85
  go_wp2_with fail
  refine wp_region_plan [(true, 0), (true, 1), (true, 2), (true, 3), (true, 4), (true, 5), (true, 6), (true, 7)] [8, 9] (fun W => W.cell? ⟨x.b, 1, none⟩ = some (.string tx) ∧ W.cell? ⟨c, 0, none⟩ = some (.pointer (some ⟨k.b, 0, none⟩)) ∧ W.cell? ⟨k.b, 1, none⟩ = some (.string tk)) (by kernel_rfl) (by kernel_rfl) (fun _ _ d _ _ h => by cases d <;> exact h) ⟨x1, hc, k1⟩ (fun hS0 => ?_)
  simp only [planOps, List.filterMap_cons, List.filterMap_nil, List.getElem?_toArray, List.getElem?_cons_zero, List.getElem?_cons_succ, Option.map_some]
  iterate 8
    first
      | (refine wpPlan_take ?_ (by rfl) (fun w' hS' => ?_) ?_; rotate_left; (obtain ⟨s0, s1, s2⟩ := hS'; go_simp; first | done | with_reducible rfl); simp only [Act.put, List.setIfInBounds_toArray, List.set_cons_zero, List.set_cons_succ])
      | (refine wpPlan_skip (by rfl) ?_; simp only [Act.put, List.setIfInBounds_toArray, List.set_cons_zero, List.set_cons_succ])
  refine wpPlan_end ?_
  go_wp2
  go_ret
  exact ⟨rfl, (Below.refl _ _).drew⟩
set_option maxHeartbeats 4000000 in
theorem scope2_any (w : World) (B c : Nat) (v : Value) (l : List ByteArray) (s : ByteArray) (ht : Texts w B v l) (hc : w.cell? ⟨c, 0, none⟩ = some v) :
    Calls Tryz.prog 87 #[.string s, .pointer (some ⟨c, 0, none⟩)] w fun e w' => e = .returned (.bool (Lib.containsS l s)) ∧ w' = w := by
  have HC := Lib.hid (contains_texts ht s)
  clear ht
  go_enter Tryz.func87, Tryz.ntmps87
  go_wp2_with fail
  refine HC.out.mono ?_
  rintro e w' ⟨rfl, rfl⟩
  go_wp2
  go_ret
  exact ⟨rfl, rfl⟩
end Go.Proofs.YtgifgiipojedbaaGreatDoor
