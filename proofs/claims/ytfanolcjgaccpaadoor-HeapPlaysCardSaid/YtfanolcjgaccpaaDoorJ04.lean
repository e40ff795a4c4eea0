/- A heap that is changed: the plain part. Walks of package heap that change it: Scope. Walks of package heap: Object, Code. -/
import Derived.Test.YtfanolcjgaccpaaDoorJ01
import Derived.Deep.AppendLies
import Derived.Test.YtfanolcjgaccpaaDoorJ03
import Derived.Deep.RegionHeld3
import Derived.Deep.RegionLaw
namespace Go.Proofs.YtfanolcjgaccpaaDoor
open Go Go.RowKit
set_option maxRecDepth 100000

theorem setCell_block {w : World} {b o : Nat} {c : Array Value} {T : TypeId} {mk : Nat × Nat} (v : Value) (h : w.heap[b]? = some (.cells c T mk)) :
    (w.setCell ⟨b, o, none⟩ v).heap[b]? = some (.cells (c.setIfInBounds o v) T mk) := by
  simp [World.setCell, Array.getElem?_modify, h]

/-- 'x.f = append(x.f, ..)': what the store at the end leaves. -/
theorem push_field {w wA w1 : World} {row : Option Nat} {hb off : Nat} {x : Value} (v' : Value) (hA : Below w.heap.size w wA) (hg : wA.grownBy w1 row) (hhb : hb < w.heap.size) (hne : row ≠ some hb)
    (hc : w.cell? ⟨hb, off, none⟩ = some x) :
    (w1.setCell ⟨hb, off, none⟩ v').cell? ⟨hb, off, none⟩ = some v' ∧ (∀ o, o ≠ off → (w1.setCell ⟨hb, off, none⟩ v').cell? ⟨hb, o, none⟩ = w.cell? ⟨hb, o, none⟩) ∧
    (∀ o, (w1.setCell ⟨hb, off, none⟩ v').frozen? ⟨hb, o, none⟩ = w.frozen? ⟨hb, o, none⟩) ∧
    (∀ b, b < w.heap.size → b ≠ hb → some b ≠ row → (w1.setCell ⟨hb, off, none⟩ v').heap[b]? = w.heap[b]?) ∧
    (∀ b, b ≠ hb → (w1.setCell ⟨hb, off, none⟩ v').heap[b]? = w1.heap[b]?) ∧
    (∀ b, b < wA.heap.size → b ≠ hb → some b ≠ row → (w1.setCell ⟨hb, off, none⟩ v').heap[b]? = wA.heap[b]?) ∧
    w.heap.size ≤ (w1.setCell ⟨hb, off, none⟩ v').heap.size ∧ (w1.setCell ⟨hb, off, none⟩ v').os = w.os ∧ (w1.setCell ⟨hb, off, none⟩ v').tape = w.tape ∧ (w1.setCell ⟨hb, off, none⟩ v').output = w.output := by
  have hhA : hb < wA.heap.size := Nat.lt_of_lt_of_le hhb hA.size
  have hb1 : w1.heap[hb]? = w.heap[hb]? := (hg.block hb hhA (fun e => hne e.symm)).trans (hA.block hb hhb)
  have c1 : ∀ o, w1.cell? ⟨hb, o, none⟩ = w.cell? ⟨hb, o, none⟩ := fun o => World.cell?_of_block hb1
  have f1 : ∀ o, w1.frozen? ⟨hb, o, none⟩ = w.frozen? ⟨hb, o, none⟩ := fun o => World.frozen?_of_block hb1
  have hs : ∀ b, b ≠ hb → (w1.setCell ⟨hb, off, none⟩ v').heap[b]? = w1.heap[b]? := fun b hne => Below.heap_setCell _ _ _ _ hne
  refine ⟨World.cell?_setCell_same _ _ _ ((c1 off).trans hc), fun o ho => ?_, fun o => ?_, fun b hb' h1 h2 => ?_, hs, fun b hb' h1 h2 => ?_, ?_, hg.os.trans hA.os, hg.tape.trans hA.tape, hg.output.trans hA.output⟩
  · rw [World.cell?_setCell_other _ _ _ _ (by intro e; cases e; exact ho rfl)]; exact c1 o
  · rw [World.frozen?_setCell]; exact f1 o
  · exact (hs b h1).trans ((hg.block b (Nat.lt_of_lt_of_le hb' hA.size) h2).trans (hA.block b hb'))
  · exact (hs b h1).trans (hg.block b hb' h2)
  · exact Nat.le_trans hA.size (Nat.le_trans hg.size (by simp [World.setCell]))

section
variable {ρ : Nat → Option Role} {w w' : World} {hb ho : Nat} {L : HL} {H : LHeap}

theorem flatMap_len {α : Type} {f : α → List Value} {m : Nat} (hf : ∀ a, (f a).length = m) (l : List α) : (l.flatMap f).length = l.length * m := by
  induction l with
  | nil => simp
  | cons a l ih => rw [List.flatMap_cons, List.length_append, ih, hf, List.length_cons, Nat.succ_mul, Nat.add_comm]

/-- The names of one scope are others now. -/
theorem HeapAt.setNames (h : HeapAt ρ w hb ho L H) {i : Nat} {s : LScope} (hi : H.scopes[i]? = some s) {nv' : Value} {names' : List LBind}
    (hblk : w'.heap[L.sb i]? = some (.cells #[.int .i64 s.outer, .int .i64 s.object, nv'] 78 (0, 0)))
    (hown : w'.ownsRow 0 96 6 nv' names'.length (names'.flatMap LBind.cells))
    (hsz : w.heap.size ≤ w'.heap.size)
    (hkeep : ∀ b, b < w.heap.size → b ≠ L.sb i → some b ≠ (L.nv i).ownBlock → w'.heap[b]? = w.heap[b]?)
    (hfresh : ∀ g, nv'.ownBlock = some g → (L.nv i).ownBlock = some g ∨ w.heap.size ≤ g)
    (h1 : w'.os = w.os) (h2 : w'.tape = w.tape) (h3 : w'.output = w.output) :
    ∃ ρ' L', HeapAt ρ' w' hb ho L' { H with scopes := H.scopes.set i { s with names := names' } } ∧ Fr ρ ρ' hb ho w w' := by
  have hil := getElem?_lt hi
  let ρ' : Nat → Option Role := fun b => if nv'.ownBlock = some b then some (.nam i) else ρ b
  have far : ∀ b r, ρ b = some r → r ≠ .scp i → r ≠ .nam i → w'.heap[b]? = w.heap[b]? := fun b r hr n1 n2 =>
    hkeep b (h.live b (by simp [hr])) (by rintro rfl; rw [h.rsb i hil] at hr; exact n1 (Option.some.inj hr).symm)
      (by intro e; rw [h.rnv i b hil e.symm] at hr; exact n2 (Option.some.inj hr).symm)
  have role : ∀ b r, ρ b = some r → r ≠ .nam i → ρ' b = some r := fun b r hr n => by
    have : nv'.ownBlock ≠ some b := fun e => by
      rcases hfresh b e with e | e
      · rw [h.rnv i b hil e] at hr; exact n (Option.some.inj hr).symm
      · have := h.live b (by simp [hr]); omega
    simp only [ρ', if_neg this]; exact hr
  have hhb : w'.heap[hb]? = w.heap[hb]? := far hb .hp h.rhp (by simp) (by simp)
  refine ⟨ρ', { L with nv := fun j => if j = i then nv' else L.nv j }, ?_, ?_⟩
  · refine { cellO := ?_, cellS := ?_, frO := ?_, frS := ?_, rowO := ?_, rowS := ?_, obj := ?_, scp := ?_, rhp := ?_, rvo := ?_, rvs := ?_, rob := ?_, rpv := ?_, rsb := ?_, rnv := ?_, live := ?_ }
    · exact (World.cell?_of_block hhb).trans h.cellO
    · exact (World.cell?_of_block hhb).trans h.cellS
    · exact (World.frozen?_of_block hhb).trans h.frO
    · exact (World.frozen?_of_block hhb).trans h.frS
    · exact ownsRow_block h.rowO fun g hg => far g _ (h.rvo g hg) (by simp) (by simp)
    · simp only [List.length_set]
      exact ownsRow_block h.rowS fun g hg => far g _ (h.rvs g hg) (by simp) (by simp)
    · intro j o hj
      have hjl := getElem?_lt hj
      exact ⟨by rw [far _ _ (h.rob j hjl) (by simp) (by simp)]; exact (h.obj j o hj).1, ownsRow_block (h.obj j o hj).2 fun g hg => far g _ (h.rpv j g hjl hg) (by simp) (by simp)⟩
    · intro j t hj
      by_cases hji : j = i
      · subst hji
        rw [List.getElem?_set_self hil] at hj
        cases hj
        simp only [if_true]
        exact ⟨hblk, hown⟩
      · simp only [if_neg hji]
        rw [List.getElem?_set_ne (by omega)] at hj
        have hjl := getElem?_lt hj
        exact ⟨by rw [far _ _ (h.rsb j hjl) (by simp; omega) (by simp)]; exact (h.scp j t hj).1, ownsRow_block (h.scp j t hj).2 fun g hg => far g _ (h.rnv j g hjl hg) (by simp) (by simp; omega)⟩
    · exact role _ _ h.rhp (by simp)
    · exact fun g hg => role _ _ (h.rvo g hg) (by simp)
    · exact fun g hg => role _ _ (h.rvs g hg) (by simp)
    · exact fun j hj => role _ _ (h.rob j hj) (by simp)
    · exact fun j g hj hg => role _ _ (h.rpv j g hj hg) (by simp)
    · intro j hj
      simp only [List.length_set] at hj
      exact role _ _ (h.rsb j hj) (by simp)
    · intro j g hj hg
      simp only [List.length_set] at hj
      by_cases hji : j = i
      · subst hji
        simp only [if_true] at hg
        simp [ρ', hg]
      · simp only [if_neg hji] at hg
        exact role _ _ (h.rnv j g hj hg) (by simp; omega)
    · intro b hb'
      by_cases e : nv'.ownBlock = some b
      · exact (hown.lt b e).2
      · simp only [ρ', if_neg e] at hb'
        exact Nat.lt_of_lt_of_le (h.live b hb') hsz
  · refine ⟨h1, h2, h3, hsz, fun k hk hr => ?_, fun k hk hr => ?_, fun _ _ _ => World.cell?_of_block hhb, fun _ => World.frozen?_of_block hhb⟩
    · exact hkeep k hk (by rintro rfl; simp [h.rsb i hil] at hr) (by intro e; simp [h.rnv i k hil e.symm] at hr)
    · have : nv'.ownBlock ≠ some k := fun e => by
        rcases hfresh k e with e | e
        · simp [h.rnv i k hil e] at hr
        · omega
      simp only [ρ', if_neg this]; exact hr

/-- The properties of one object are others now. -/
theorem HeapAt.setProps (h : HeapAt ρ w hb ho L H) {i : Nat} {s : LObj} (hi : H.objects[i]? = some s) {nv' : Value} {props' : List LProp}
    (hblk : w'.heap[L.ob i]? = some (.cells #[nv', .int .i64 s.code] 74 (0, 0)))
    (hown : w'.ownsRow 0 87 5 nv' props'.length (props'.flatMap LProp.cells))
    (hsz : w.heap.size ≤ w'.heap.size)
    (hkeep : ∀ b, b < w.heap.size → b ≠ L.ob i → some b ≠ (L.pv i).ownBlock → w'.heap[b]? = w.heap[b]?)
    (hfresh : ∀ g, nv'.ownBlock = some g → (L.pv i).ownBlock = some g ∨ w.heap.size ≤ g)
    (h1 : w'.os = w.os) (h2 : w'.tape = w.tape) (h3 : w'.output = w.output) :
    ∃ ρ' L', HeapAt ρ' w' hb ho L' { H with objects := H.objects.set i { s with props := props' } } ∧ Fr ρ ρ' hb ho w w' := by
  have hil := getElem?_lt hi
  let ρ' : Nat → Option Role := fun b => if nv'.ownBlock = some b then some (.prp i) else ρ b
  have far : ∀ b r, ρ b = some r → r ≠ .obj i → r ≠ .prp i → w'.heap[b]? = w.heap[b]? := fun b r hr n1 n2 =>
    hkeep b (h.live b (by simp [hr])) (by rintro rfl; rw [h.rob i hil] at hr; exact n1 (Option.some.inj hr).symm)
      (by intro e; rw [h.rpv i b hil e.symm] at hr; exact n2 (Option.some.inj hr).symm)
  have role : ∀ b r, ρ b = some r → r ≠ .prp i → ρ' b = some r := fun b r hr n => by
    have : nv'.ownBlock ≠ some b := fun e => by
      rcases hfresh b e with e | e
      · rw [h.rpv i b hil e] at hr; exact n (Option.some.inj hr).symm
      · have := h.live b (by simp [hr]); omega
    simp only [ρ', if_neg this]; exact hr
  have hhb : w'.heap[hb]? = w.heap[hb]? := far hb .hp h.rhp (by simp) (by simp)
  refine ⟨ρ', { L with pv := fun j => if j = i then nv' else L.pv j }, ?_, ?_⟩
  · refine { cellO := ?_, cellS := ?_, frO := ?_, frS := ?_, rowO := ?_, rowS := ?_, obj := ?_, scp := ?_, rhp := ?_, rvo := ?_, rvs := ?_, rob := ?_, rpv := ?_, rsb := ?_, rnv := ?_, live := ?_ }
    · exact (World.cell?_of_block hhb).trans h.cellO
    · exact (World.cell?_of_block hhb).trans h.cellS
    · exact (World.frozen?_of_block hhb).trans h.frO
    · exact (World.frozen?_of_block hhb).trans h.frS
    · simp only [List.length_set]
      exact ownsRow_block h.rowO fun g hg => far g _ (h.rvo g hg) (by simp) (by simp)
    · exact ownsRow_block h.rowS fun g hg => far g _ (h.rvs g hg) (by simp) (by simp)
    · intro j t hj
      by_cases hji : j = i
      · subst hji
        rw [List.getElem?_set_self hil] at hj
        cases hj
        simp only [if_true]
        exact ⟨hblk, hown⟩
      · simp only [if_neg hji]
        rw [List.getElem?_set_ne (by omega)] at hj
        have hjl := getElem?_lt hj
        exact ⟨by rw [far _ _ (h.rob j hjl) (by simp; omega) (by simp)]; exact (h.obj j t hj).1, ownsRow_block (h.obj j t hj).2 fun g hg => far g _ (h.rpv j g hjl hg) (by simp) (by simp; omega)⟩
    · intro j o hj
      have hjl := getElem?_lt hj
      exact ⟨by rw [far _ _ (h.rsb j hjl) (by simp) (by simp)]; exact (h.scp j o hj).1, ownsRow_block (h.scp j o hj).2 fun g hg => far g _ (h.rnv j g hjl hg) (by simp) (by simp)⟩
    · exact role _ _ h.rhp (by simp)
    · exact fun g hg => role _ _ (h.rvo g hg) (by simp)
    · exact fun g hg => role _ _ (h.rvs g hg) (by simp)
    · intro j hj
      simp only [List.length_set] at hj
      exact role _ _ (h.rob j hj) (by simp)
    · intro j g hj hg
      simp only [List.length_set] at hj
      by_cases hji : j = i
      · subst hji
        simp only [if_true] at hg
        simp [ρ', hg]
      · simp only [if_neg hji] at hg
        exact role _ _ (h.rpv j g hj hg) (by simp; omega)
    · exact fun j hj => role _ _ (h.rsb j hj) (by simp)
    · exact fun j g hj hg => role _ _ (h.rnv j g hj hg) (by simp)
    · intro b hb'
      by_cases e : nv'.ownBlock = some b
      · exact (hown.lt b e).2
      · simp only [ρ', if_neg e] at hb'
        exact Nat.lt_of_lt_of_le (h.live b hb') hsz
  · refine ⟨h1, h2, h3, hsz, fun k hk hr => ?_, fun k hk hr => ?_, fun _ _ _ => World.cell?_of_block hhb, fun _ => World.frozen?_of_block hhb⟩
    · exact hkeep k hk (by rintro rfl; simp [h.rob i hil] at hr) (by intro e; simp [h.rpv i k hil e.symm] at hr)
    · have : nv'.ownBlock ≠ some k := fun e => by
        rcases hfresh k e with e | e
        · simp [h.rpv i k hil e] at hr
        · omega
      simp only [ρ', if_neg this]; exact hr

theorem ptrs_succ (f : Nat → Nat) (n nb : Nat) : ptrs (fun j => if j = n then nb else f j) (n + 1) = ptrs f n ++ [.pointer (some ⟨nb, 0, none⟩)] := by
  unfold ptrs
  rw [List.range_succ, List.map_append]
  congr 1
  · refine List.map_congr_left fun j hj => ?_
    have := List.mem_range.1 hj
    simp only [if_neg (show j ≠ n by omega)]
  · simp

/-- One scope more. -/
theorem HeapAt.addScope (h : HeapAt ρ w hb ho L H) {nb : Nat} {vs' : Value} {outer object : Int}
    (hvs : w'.cell? ⟨hb, ho + 1, none⟩ = some vs') (hblk : w'.heap[nb]? = some (.cells #[.int .i64 outer, .int .i64 object, .slice none 0 0] 78 (0, 0)))
    (hown : w'.ownsRow 0 75 1 vs' (H.scopes.length + 1) (ptrs L.sb H.scopes.length ++ [.pointer (some ⟨nb, 0, none⟩)]))
    (hnb : w.heap.size ≤ nb) (hsz : w.heap.size ≤ w'.heap.size)
    (hkeep : ∀ b, b < w.heap.size → b ≠ hb → some b ≠ L.vs.ownBlock → w'.heap[b]? = w.heap[b]?)
    (hcell : ∀ o, o ≠ ho + 1 → w'.cell? ⟨hb, o, none⟩ = w.cell? ⟨hb, o, none⟩) (hfz : ∀ o, w'.frozen? ⟨hb, o, none⟩ = w.frozen? ⟨hb, o, none⟩)
    (hfresh : ∀ g, vs'.ownBlock = some g → L.vs.ownBlock = some g ∨ w.heap.size ≤ g) (hne : vs'.ownBlock ≠ some nb)
    (h1 : w'.os = w.os) (h2 : w'.tape = w.tape) (h3 : w'.output = w.output) :
    ∃ ρ' L', HeapAt ρ' w' hb ho L' { H with scopes := H.scopes ++ [⟨outer, object, []⟩] } ∧ Fr ρ ρ' hb ho w w' := by
  let n := H.scopes.length
  let ρ' : Nat → Option Role := fun b => if b = nb then some (.scp n) else if vs'.ownBlock = some b then some .scps else ρ b
  have far : ∀ b r, ρ b = some r → r ≠ .hp → r ≠ .scps → w'.heap[b]? = w.heap[b]? := fun b r hr n1 n2 =>
    hkeep b (h.live b (by simp [hr])) (by rintro rfl; rw [h.rhp] at hr; exact n1 (Option.some.inj hr).symm)
      (by intro e; rw [h.rvs b e.symm] at hr; exact n2 (Option.some.inj hr).symm)
  have role : ∀ b r, ρ b = some r → r ≠ .scps → ρ' b = some r := fun b r hr hn => by
    have hlt := h.live b (by simp [hr])
    have h1 : b ≠ nb := by omega
    have h2 : vs'.ownBlock ≠ some b := fun e => by
      rcases hfresh b e with e | e
      · rw [h.rvs b e] at hr; exact hn (Option.some.inj hr).symm
      · omega
    simp only [ρ', if_neg h1, if_neg h2]; exact hr
  refine ⟨ρ', { L with vs := vs', sb := fun j => if j = n then nb else L.sb j, nv := fun j => if j = n then .slice none 0 0 else L.nv j }, ?_, ?_⟩
  · refine { cellO := ?_, cellS := ?_, frO := ?_, frS := ?_, rowO := ?_, rowS := ?_, obj := ?_, scp := ?_, rhp := ?_, rvo := ?_, rvs := ?_, rob := ?_, rpv := ?_, rsb := ?_, rnv := ?_, live := ?_ }
    · exact (hcell ho (by omega)).trans h.cellO
    · exact hvs
    · exact (hfz ho).trans h.frO
    · exact (hfz _).trans h.frS
    · exact ownsRow_block h.rowO fun g hg => far g _ (h.rvo g hg) (by simp) (by simp)
    · simp only [List.length_append, List.length_cons, List.length_nil, Nat.zero_add]
      rw [ptrs_succ]
      exact hown
    · intro j o hj
      have hjl := getElem?_lt hj
      exact ⟨by rw [far _ _ (h.rob j hjl) (by simp) (by simp)]; exact (h.obj j o hj).1, ownsRow_block (h.obj j o hj).2 fun g hg => far g _ (h.rpv j g hjl hg) (by simp) (by simp)⟩
    · intro j t hj
      by_cases hji : j = n
      · subst hji
        rw [List.getElem?_append_right (Nat.le_refl _)] at hj
        simp only [Nat.sub_self, List.getElem?_cons_zero, Option.some.injEq] at hj
        subst hj
        simp only [n, if_true]
        exact ⟨hblk, by simpa using World.ownsRow_nil _ _ _ _⟩
      · simp only [if_neg hji]
        have hjl : j < H.scopes.length := by
          have := getElem?_lt hj
          simp at this
          simp only [n] at hji
          omega
        rw [List.getElem?_append_left hjl] at hj
        exact ⟨by rw [far _ _ (h.rsb j hjl) (by simp) (by simp)]; exact (h.scp j t hj).1, ownsRow_block (h.scp j t hj).2 fun g hg => far g _ (h.rnv j g hjl hg) (by simp) (by simp)⟩
    · exact role _ _ h.rhp (by simp)
    · exact fun g hg => role _ _ (h.rvo g hg) (by simp)
    · intro g hg
      have : g ≠ nb := by rintro rfl; exact hne hg
      simp [ρ', this, show vs'.ownBlock = some g from hg]
    · exact fun j hj => role _ _ (h.rob j hj) (by simp)
    · exact fun j g hj hg => role _ _ (h.rpv j g hj hg) (by simp)
    · intro j hj
      by_cases hji : j = n
      · subst hji; simp [ρ']
      · simp only [if_neg hji]
        simp only [List.length_append, List.length_cons, List.length_nil] at hj
        exact role _ _ (h.rsb j (by simp only [n] at hji; omega)) (by simp)
    · intro j g hj hg
      by_cases hji : j = n
      · subst hji; simp [Value.ownBlock] at hg
      · simp only [if_neg hji] at hg
        simp only [List.length_append, List.length_cons, List.length_nil] at hj
        exact role _ _ (h.rnv j g (by simp only [n] at hji; omega) hg) (by simp)
    · intro b hb'
      by_cases e1 : b = nb
      · subst e1; exact (Array.getElem?_eq_some_iff.1 hblk).1
      · by_cases e : vs'.ownBlock = some b
        · exact (hown.lt b e).2
        · simp only [ρ', if_neg e, if_neg e1] at hb'
          exact Nat.lt_of_lt_of_le (h.live b hb') hsz
  · refine ⟨h1, h2, h3, hsz, fun k hk hr => ?_, fun k hk hr => ?_, fun o _ ho2 => hcell o ho2, hfz⟩
    · exact hkeep k hk (by rintro rfl; simp [h.rhp] at hr) (by intro e; simp [h.rvs k e.symm] at hr)
    · have h4 : k ≠ nb := by omega
      have : vs'.ownBlock ≠ some k := fun e => by
        rcases hfresh k e with e | e
        · simp [h.rvs k e] at hr
        · omega
      simp only [ρ', if_neg this, if_neg h4]; exact hr

/-- One object more. -/
theorem HeapAt.addObject (h : HeapAt ρ w hb ho L H) {nb : Nat} {vo' : Value} {code : Int}
    (hvo : w'.cell? ⟨hb, ho, none⟩ = some vo') (hblk : w'.heap[nb]? = some (.cells #[.slice none 0 0, .int .i64 code] 74 (0, 0)))
    (hown : w'.ownsRow 0 71 1 vo' (H.objects.length + 1) (ptrs L.ob H.objects.length ++ [.pointer (some ⟨nb, 0, none⟩)]))
    (hnb : w.heap.size ≤ nb) (hsz : w.heap.size ≤ w'.heap.size)
    (hkeep : ∀ b, b < w.heap.size → b ≠ hb → some b ≠ L.vo.ownBlock → w'.heap[b]? = w.heap[b]?)
    (hcell : ∀ o, o ≠ ho → w'.cell? ⟨hb, o, none⟩ = w.cell? ⟨hb, o, none⟩) (hfz : ∀ o, w'.frozen? ⟨hb, o, none⟩ = w.frozen? ⟨hb, o, none⟩)
    (hfresh : ∀ g, vo'.ownBlock = some g → L.vo.ownBlock = some g ∨ w.heap.size ≤ g) (hne : vo'.ownBlock ≠ some nb)
    (h1 : w'.os = w.os) (h2 : w'.tape = w.tape) (h3 : w'.output = w.output) :
    ∃ ρ' L', HeapAt ρ' w' hb ho L' { H with objects := H.objects ++ [⟨[], code⟩] } ∧ Fr ρ ρ' hb ho w w' := by
  let n := H.objects.length
  let ρ' : Nat → Option Role := fun b => if b = nb then some (.obj n) else if vo'.ownBlock = some b then some .objs else ρ b
  have far : ∀ b r, ρ b = some r → r ≠ .hp → r ≠ .objs → w'.heap[b]? = w.heap[b]? := fun b r hr n1 n2 =>
    hkeep b (h.live b (by simp [hr])) (by rintro rfl; rw [h.rhp] at hr; exact n1 (Option.some.inj hr).symm)
      (by intro e; rw [h.rvo b e.symm] at hr; exact n2 (Option.some.inj hr).symm)
  have role : ∀ b r, ρ b = some r → r ≠ .objs → ρ' b = some r := fun b r hr hn => by
    have hlt := h.live b (by simp [hr])
    have h1 : b ≠ nb := by omega
    have h2 : vo'.ownBlock ≠ some b := fun e => by
      rcases hfresh b e with e | e
      · rw [h.rvo b e] at hr; exact hn (Option.some.inj hr).symm
      · omega
    simp only [ρ', if_neg h1, if_neg h2]; exact hr
  refine ⟨ρ', { L with vo := vo', ob := fun j => if j = n then nb else L.ob j, pv := fun j => if j = n then .slice none 0 0 else L.pv j }, ?_, ?_⟩
  · refine { cellO := ?_, cellS := ?_, frO := ?_, frS := ?_, rowO := ?_, rowS := ?_, obj := ?_, scp := ?_, rhp := ?_, rvo := ?_, rvs := ?_, rob := ?_, rpv := ?_, rsb := ?_, rnv := ?_, live := ?_ }
    · exact hvo
    · exact (hcell (ho + 1) (by omega)).trans h.cellS
    · exact (hfz ho).trans h.frO
    · exact (hfz _).trans h.frS
    · simp only [List.length_append, List.length_cons, List.length_nil, Nat.zero_add]
      rw [ptrs_succ]
      exact hown
    · exact ownsRow_block h.rowS fun g hg => far g _ (h.rvs g hg) (by simp) (by simp)
    · intro j t hj
      by_cases hji : j = n
      · subst hji
        rw [List.getElem?_append_right (Nat.le_refl _)] at hj
        simp only [Nat.sub_self, List.getElem?_cons_zero, Option.some.injEq] at hj
        subst hj
        simp only [n, if_true]
        exact ⟨hblk, by simpa using World.ownsRow_nil _ _ _ _⟩
      · simp only [if_neg hji]
        have hjl : j < H.objects.length := by
          have := getElem?_lt hj
          simp at this
          simp only [n] at hji
          omega
        rw [List.getElem?_append_left hjl] at hj
        exact ⟨by rw [far _ _ (h.rob j hjl) (by simp) (by simp)]; exact (h.obj j t hj).1, ownsRow_block (h.obj j t hj).2 fun g hg => far g _ (h.rpv j g hjl hg) (by simp) (by simp)⟩
    · intro j o hj
      have hjl := getElem?_lt hj
      exact ⟨by rw [far _ _ (h.rsb j hjl) (by simp) (by simp)]; exact (h.scp j o hj).1, ownsRow_block (h.scp j o hj).2 fun g hg => far g _ (h.rnv j g hjl hg) (by simp) (by simp)⟩
    · exact role _ _ h.rhp (by simp)
    · intro g hg
      have : g ≠ nb := by rintro rfl; exact hne hg
      simp [ρ', this, show vo'.ownBlock = some g from hg]
    · exact fun g hg => role _ _ (h.rvs g hg) (by simp)
    · intro j hj
      by_cases hji : j = n
      · subst hji; simp [ρ']
      · simp only [if_neg hji]
        simp only [List.length_append, List.length_cons, List.length_nil] at hj
        exact role _ _ (h.rob j (by simp only [n] at hji; omega)) (by simp)
    · intro j g hj hg
      by_cases hji : j = n
      · subst hji; simp [Value.ownBlock] at hg
      · simp only [if_neg hji] at hg
        simp only [List.length_append, List.length_cons, List.length_nil] at hj
        exact role _ _ (h.rpv j g (by simp only [n] at hji; omega) hg) (by simp)
    · exact fun j hj => role _ _ (h.rsb j hj) (by simp)
    · exact fun j g hj hg => role _ _ (h.rnv j g hj hg) (by simp)
    · intro b hb'
      by_cases e1 : b = nb
      · subst e1; exact (Array.getElem?_eq_some_iff.1 hblk).1
      · by_cases e : vo'.ownBlock = some b
        · exact (hown.lt b e).2
        · simp only [ρ', if_neg e, if_neg e1] at hb'
          exact Nat.lt_of_lt_of_le (h.live b hb') hsz
  · refine ⟨h1, h2, h3, hsz, fun k hk hr => ?_, fun k hk hr => ?_, fun o ho2 _ => hcell o ho2, hfz⟩
    · exact hkeep k hk (by rintro rfl; simp [h.rhp] at hr) (by intro e; simp [h.rvo k e.symm] at hr)
    · have h4 : k ≠ nb := by omega
      have : vo'.ownBlock ≠ some k := fun e => by
        rcases hfresh k e with e | e
        · simp [h.rvo k e] at hr
        · omega
      simp only [ρ', if_neg this, if_neg h4]; exact hr
end
end Go.Proofs.YtfanolcjgaccpaaDoor

namespace Go.Proofs.YtfanolcjgaccpaaDoor
open Go Go.RowKit
set_option maxRecDepth 100000

theorem Tryd.infoPS : (Tryd.prog.info? 75).map (fun i => (i.zero, i.size, i.bytes)) = some (some (.pointer none), 1, 8) := by kernel_rfl
theorem Tryd.infoPO : (Tryd.prog.info? 71).map (fun i => (i.zero, i.size, i.bytes)) = some (some (.pointer none), 1, 8) := by kernel_rfl
theorem Tryd.infoBind : (Tryd.prog.info? 96).map (fun i => (i.zero, i.size, i.bytes)) = some (some (.agg #[.string ⟨#[]⟩, .int .i64 0, .int .i64 0, .string ⟨#[]⟩, .int .i64 0, .bool false]), 6, 64) := by kernel_rfl

theorem news1 (w : World) (o : Obj) (x : Value) (t : TypeId) : ∀ j u, [x][j]? = some u → ((w.alloc o).alloc (.cells #[x] t)).cell? ((⟨w.heap.size + 1, 0, none⟩ : Addr).add j) = some u := by
  have := cell_one_new (w.alloc o) x t
  rwa [show (w.alloc o).heap.size = w.heap.size + 1 by simp] at this

section
variable {ρ : Nat → Option Role} {w : World} {hb ho : Nat} {L : HL} {H : LHeap}

set_option maxHeartbeats 800000 in
theorem newScope_any (h : HeapAt ρ w hb ho L H) (outer object : Int) (hn : H.scopes.length < 1099511627776) :
    Calls Tryd.prog 6 #[.pointer (some ⟨hb, ho, none⟩), .int .i64 outer, .int .i64 object] w fun e w' => e = .returned (.int .i64 H.scopes.length) ∧
      ∃ ρ' L', HeapAt ρ' w' hb ho L' { H with scopes := H.scopes ++ [⟨outer, object, []⟩] } ∧ Fr ρ ρ' hb ho w w' := by
  obtain ⟨i0, hi, hz0, hz1, hz2⟩ := info_parts Tryd.infoPS
  have hcs := h.cellS
  have hfs := h.frS
  have hhb := h.hbLt
  have hown := h.rowS
  have hlt : ∀ g, L.vs.ownBlock = some g → g < w.heap.size := fun g hg => (hown.lt g hg).2
  have hrole : ∀ g, L.vs.ownBlock = some g → g ≠ hb := fun g hg e => by have := h.rvs g hg; rw [e, h.rhp] at this; cases this
  obtain ⟨vs, hvs⟩ : ∃ v, v = L.vs := ⟨_, rfl⟩
  obtain ⟨sb, hsb⟩ : ∃ v, v = ptrs L.sb H.scopes.length := ⟨_, rfl⟩
  obtain ⟨n, hnn⟩ : ∃ n, n = H.scopes.length := ⟨_, rfl⟩
  rw [← hvs, ← hsb] at hown
  rw [← hvs] at hcs hlt hrole
  rw [← hnn] at hn hown ⊢
  have HH := Lib.hid h
  have HV := Lib.hid hvs
  have HS := Lib.hid hsb
  have HN := Lib.hid hnn
  have HO := Lib.hid hown
  have HL := Lib.hid hlt
  have HR := Lib.hid hrole
  clear h hvs hsb hnn hown hlt hrole
  have haft : ∀ o1 o2 (w1 : World), ((w.alloc o1).alloc o2).grownBy w1 vs.ownBlock → w1.cell? ⟨hb, ho + 1, none⟩ = some vs ∧ w1.frozen? ⟨hb, ho + 1, none⟩ = false := fun o1 o2 w1 hg =>
    ⟨(hg.cell_far ⟨hb, ho + 1, none⟩ (by simp; omega) (fun e => HR.out hb e.symm rfl)).trans ((cell_old (by simp; omega)).trans ((cell_old hhb).trans hcs)),
     (hg.frozen_far ⟨hb, ho + 1, none⟩ (by simp; omega) (fun e => HR.out hb e.symm rfl)).trans ((frozen_old (by simp; omega)).trans ((frozen_old hhb).trans hfs))⟩
  have HA := Lib.hid haft
  clear haft
  go_enter Tryd.func6, Tryd.ntmps6
  go_wp2_with (at_builtin; go_must (refine wpList_append_lies _ rfl (.tmp 11) (.tmp 16) 24 rfl 0 75 i0 (.pointer none) 1 8 Tryd.underlying24 hi hz0 hz1 hz2 rfl (by decide) vs n sb rfl ((HO.out.alloc _).alloc _) ⟨w.heap.size + 1, 0, none⟩ 1 1 [.pointer (some ⟨w.heap.size, 0, none⟩)] rfl rfl (news1 _ _ _ _) (by intro u hu; simp at hu; subst hu; rfl) (by omega) (by unfold maxLen; omega) (by omega) (by omega) (w.heap.size + 2) (by simp) ?_); intro g cap w1 hown1 hgrow1 hat hgl; obtain ⟨hc1, hf1⟩ := HA.out _ _ _ hgrow1; have HG := Lib.hid hgrow1; have HW := Lib.hid hown1; have HT := Lib.hid hat; have HGL := Lib.hid hgl; clear hgrow1 hown1 hat hgl)
  go_ret
  refine ⟨ret_int (by omega), ?_⟩
  have hA : Below w.heap.size w ((w.alloc (.cells #[.int .i64 outer, .int .i64 object, .slice none 0 0] 78)).alloc (.cells #[.pointer (some ⟨w.heap.size, 0, none⟩)] 75)) := ((Below.refl _ _).alloc (Nat.le_refl _) _).alloc (by simp) _
  have hne : vs.ownBlock ≠ some hb := fun e => HR.out hb e rfl
  obtain ⟨k1, k2, k3, k4, k5, k6, k7, k8, k9, k10⟩ := push_field (.slice (some ⟨g, 0, none⟩) (n + 1) cap) hA HG.out hhb hne hcs
  have hv := HV.out
  have hgn : ∀ g', vs.ownBlock = some g' → g' < w.heap.size := HL.out
  have hgb : g ≠ hb := by
    rcases HT.out with h | h
    · exact HR.out g h
    · omega
  have h := HH.out
  refine h.addScope (nb := w.heap.size) k1 ?_ ?_ (Nat.le_refl _) k7 ?_ k2 k3 ?_ ?_ k8 k9 k10
  · rw [k6 w.heap.size (by simp; omega) (by omega) (fun e => by have := hgn _ e.symm; omega)]
    exact heap_alloc2_old w _ _
  · have hsb := HS.out
    rw [← HN.out] at hsb
    rw [← HN.out, ← hsb]
    exact ownsRow_block HW.out fun g' hg' => k5 g' (by simp only [Value.ownBlock, Option.some.injEq] at hg'; omega)
  · intro b hb1 hb2 hb3
    rw [← hv] at hb3
    exact k4 b hb1 hb2 hb3
  · intro g' hg'
    simp only [Value.ownBlock, Option.some.injEq] at hg'
    subst hg'
    rw [← hv]
    rcases HT.out with h | h
    · exact .inl h
    · exact .inr (by omega)
  · simp only [Value.ownBlock, ne_eq, Option.some.injEq]
    rcases HT.out with h | h
    · have := hgn g h; omega
    · omega
end
end Go.Proofs.YtfanolcjgaccpaaDoor

namespace Go.Proofs.YtfanolcjgaccpaaDoor
open Go Go.RowKit
set_option maxRecDepth 100000
section
variable {ρ : Nat → Option Role} {w : World} {hb ho : Nat} {L : HL} {H : LHeap}

set_option maxHeartbeats 800000 in
theorem newObject_any (h : HeapAt ρ w hb ho L H) (code : Int) (hn : H.objects.length < 1099511627776) :
    Calls Tryd.prog 5 #[.pointer (some ⟨hb, ho, none⟩), .int .i64 code] w fun e w' => e = .returned (.int .i64 H.objects.length) ∧
      ∃ ρ' L', HeapAt ρ' w' hb ho L' { H with objects := H.objects ++ [⟨[], code⟩] } ∧ Fr ρ ρ' hb ho w w' := by
  obtain ⟨i0, hi, hz0, hz1, hz2⟩ := info_parts Tryd.infoPO
  have hcs := h.cellO
  have hfs := h.frO
  have hhb := h.hbLt
  have hown := h.rowO
  have hlt : ∀ g, L.vo.ownBlock = some g → g < w.heap.size := fun g hg => (hown.lt g hg).2
  have hrole : ∀ g, L.vo.ownBlock = some g → g ≠ hb := fun g hg e => by have := h.rvo g hg; rw [e, h.rhp] at this; cases this
  obtain ⟨vs, hvs⟩ : ∃ v, v = L.vo := ⟨_, rfl⟩
  obtain ⟨sb, hsb⟩ : ∃ v, v = ptrs L.ob H.objects.length := ⟨_, rfl⟩
  obtain ⟨n, hnn⟩ : ∃ n, n = H.objects.length := ⟨_, rfl⟩
  rw [← hvs, ← hsb] at hown
  rw [← hvs] at hcs hlt hrole
  rw [← hnn] at hn hown ⊢
  have HH := Lib.hid h
  have HV := Lib.hid hvs
  have HS := Lib.hid hsb
  have HN := Lib.hid hnn
  have HO := Lib.hid hown
  have HL := Lib.hid hlt
  have HR := Lib.hid hrole
  clear h hvs hsb hnn hown hlt hrole
  have haft : ∀ o1 o2 (w1 : World), ((w.alloc o1).alloc o2).grownBy w1 vs.ownBlock → w1.cell? ⟨hb, ho, none⟩ = some vs ∧ w1.frozen? ⟨hb, ho, none⟩ = false := fun o1 o2 w1 hg =>
    ⟨(hg.cell_far ⟨hb, ho, none⟩ (by simp; omega) (fun e => HR.out hb e.symm rfl)).trans ((cell_old (by simp; omega)).trans ((cell_old hhb).trans hcs)),
     (hg.frozen_far ⟨hb, ho, none⟩ (by simp; omega) (fun e => HR.out hb e.symm rfl)).trans ((frozen_old (by simp; omega)).trans ((frozen_old hhb).trans hfs))⟩
  have HA := Lib.hid haft
  clear haft
  go_enter Tryd.func5, Tryd.ntmps5
  go_wp2_with (at_builtin; go_must (refine wpList_append_lies _ rfl (.tmp 9) (.tmp 13) 23 rfl 0 71 i0 (.pointer none) 1 8 Tryd.underlying23 hi hz0 hz1 hz2 rfl (by decide) vs n sb rfl ((HO.out.alloc _).alloc _) ⟨w.heap.size + 1, 0, none⟩ 1 1 [.pointer (some ⟨w.heap.size, 0, none⟩)] rfl rfl (news1 _ _ _ _) (by intro u hu; simp at hu; subst hu; rfl) (by omega) (by unfold maxLen; omega) (by omega) (by omega) (w.heap.size + 2) (by simp) ?_); intro g cap w1 hown1 hgrow1 hat hgl; obtain ⟨hc1, hf1⟩ := HA.out _ _ _ hgrow1; have HG := Lib.hid hgrow1; have HW := Lib.hid hown1; have HT := Lib.hid hat; have HGL := Lib.hid hgl; clear hgrow1 hown1 hat hgl)
  go_ret
  refine ⟨ret_int (by omega), ?_⟩
  have hA : Below w.heap.size w ((w.alloc (.cells #[.slice none 0 0, .int .i64 code] 74)).alloc (.cells #[.pointer (some ⟨w.heap.size, 0, none⟩)] 71)) := ((Below.refl _ _).alloc (Nat.le_refl _) _).alloc (by simp) _
  have hne : vs.ownBlock ≠ some hb := fun e => HR.out hb e rfl
  obtain ⟨k1, k2, k3, k4, k5, k6, k7, k8, k9, k10⟩ := push_field (.slice (some ⟨g, 0, none⟩) (n + 1) cap) hA HG.out hhb hne hcs
  have hv := HV.out
  have hgn : ∀ g', vs.ownBlock = some g' → g' < w.heap.size := HL.out
  have hgb : g ≠ hb := by
    rcases HT.out with h | h
    · exact HR.out g h
    · omega
  have h := HH.out
  refine h.addObject (nb := w.heap.size) k1 ?_ ?_ (Nat.le_refl _) k7 ?_ k2 k3 ?_ ?_ k8 k9 k10
  · rw [k6 w.heap.size (by simp; omega) (by omega) (fun e => by have := hgn _ e.symm; omega)]
    exact heap_alloc2_old w _ _
  · have hsb := HS.out
    rw [← HN.out] at hsb
    rw [← HN.out, ← hsb]
    exact ownsRow_block HW.out fun g' hg' => k5 g' (by simp only [Value.ownBlock, Option.some.injEq] at hg'; omega)
  · intro b hb1 hb2 hb3
    rw [← hv] at hb3
    exact k4 b hb1 hb2 hb3
  · intro g' hg'
    simp only [Value.ownBlock, Option.some.injEq] at hg'
    subst hg'
    rw [← hv]
    rcases HT.out with h | h
    · exact .inl h
    · exact .inr (by omega)
  · simp only [Value.ownBlock, ne_eq, Option.some.injEq]
    rcases HT.out with h | h
    · have := hgn g h; omega
    · omega

def LHeap.code (H : LHeap) (n : Int) : Int := match H.object? n with | some o => o.code | none => 0
set_option maxHeartbeats 800000 in
theorem code_any (h : HeapAt ρ w hb ho L H) (n : Int) :
    Calls Tryd.prog 34 #[.pointer (some ⟨hb, ho, none⟩), .int .i64 n] w fun e w' => e = .returned (.int .i64 (H.code n)) ∧ w' = w := by
  rcases hob : H.object? n with _ | o
  · have HC := Lib.hid (object_no h n hob)
    have hd : H.code n = 0 := by simp [LHeap.code, hob]
    rw [hd]
    clear h hob hd
    go_enter Tryd.func34, Tryd.ntmps34
    go_wp2_with fail
    refine HC.out.mono ?_
    rintro e w1 ⟨rfl, rfl⟩
    go_wp2
    go_ret
    exact ⟨rfl, rfl⟩
  · obtain ⟨m, rfl, hm⟩ : ∃ m : Nat, n = m ∧ H.objects[m]? = some o := by
      unfold LHeap.object? at hob
      split at hob
      · cases hob
      · exact ⟨n.toNat, by omega, hob⟩
    have hml := getElem?_lt hm
    have HC := Lib.hid (object_yes h m hml)
    have hd : H.code m = o.code := by simp [LHeap.code, hob]
    rw [hd]
    have hc : w.cell? ⟨L.ob m, 1, none⟩ = some (.int .i64 o.code) := by have := (h.obj m o hm).1; simp [World.cell?, this]
    clear h hob hd hm
    go_enter Tryd.func34, Tryd.ntmps34
    go_wp2_with fail
    refine HC.out.mono ?_
    rintro e w1 ⟨rfl, rfl⟩
    go_wp2
    go_ret
    exact ⟨rfl, rfl⟩
end
end Go.Proofs.YtfanolcjgaccpaaDoor
