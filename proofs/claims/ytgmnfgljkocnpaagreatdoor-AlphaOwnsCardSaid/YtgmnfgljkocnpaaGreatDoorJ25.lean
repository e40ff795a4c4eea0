/- A region that draws its order and holds operations that come up in many orders: what has come up tells what holds. -/
import Derived.Test.YtgmnfgljkocnpaaGreatDoorJ01
namespace Go.Proofs.YtgmnfgljkocnpaaGreatDoor
open Go
section
variable {P : Program} {ops : Array Oper} {md : Region.Mode}
def Zbq (P : Program) (ops : Array Oper) (K : Act → Prop) : List Oper → Act → Prop
 | [], a => K a
 | o :: r, a => ∃ v, YieldsIf P ops (fun _ => True) o v a ∧ Zbq P ops K r (a.put o.dst v)
theorem Zd7 {K : Act → Prop} {o : Oper} {r : List Oper} {a : Act} (v : Value)
 (hw : Region.wanted o (yielded ops a.tmps) = true) (hy : ∀ w', True → (execOp a.eval o).run P w' = .ok (.value v) w') (h : Zbq P ops K r (a.put o.dst v)) : Zbq P ops K (o :: r) a :=
 ⟨v, .inl ⟨hw, hy⟩, h⟩
def Zhj (md : Region.Mode) (ops : Array Oper) : List Nat → Array Bool → Bool
 | [], _ => true
 | i :: r, listed => (Region.ready md ops listed).contains i && Region.free md ops listed i && Zhj md ops r (listed.setIfInBounds i true)
def dagB (md : Region.Mode) (ops : Array Oper) (pre L ph : List Nat) : Bool :=
 Region.noSelect ops && Z42 md ops ph && Zbo md ops ph (((List.range ops.size).map fun j => !ph.contains j).toArray) && Zhj md ops pre (Z12 ph (Array.replicate ops.size false)) &&
  decide (pre.length + L.length + ph.length = ops.size) && (pre.all fun i => decide (i < ops.size)) && ((List.range ops.size).all fun j => pre.contains j || L.contains j || ph.contains j)
theorem Z37 {m : Array Bool} {i j : Nat} (h : i < m.size) : (m.setIfInBounds i true).getD j false = if i = j then true else m.getD j false := by
 by_cases e : i = j;·subst e; simp [h]
 ·rw [getD_set_ne false e, if_neg e]
theorem Zfz {Q : Exit → Act → World → Prop} {L : List Nat} (Inv : Array Bool → Act → World → Prop) (hback : Zgk md ops = true)
 (hS : ∀ listed i a w, listed.size = ops.size → i ∈ L → i < ops.size → listed.getD i false = false → (∀ j, waits md ops i j = true → listed.getD j false = true) → Inv listed a w → wpOp P ops Q i (fun a' w' => Inv (listed.setIfInBounds i true) a' w') a w)
 (hE : ∀ listed a w, (∀ j, j < ops.size → listed.getD j false = true) → Inv listed a w → Q .normal a w) :
 ∀ (k : Nat) (listed : Array Bool) (a : Act) (w : World), listed.size = ops.size → (∀ j, j < ops.size → listed.getD j false = true ∨ j ∈ L) → (L.filter fun j => !listed.getD j true).length ≤ k → Inv listed a w → wpAnyH P md ops Q (fun _ => True) k listed a w := by
 have done : ∀ listed : Array Bool, listed.size = ops.size → Region.ready md ops listed = [] → ∀ j, j < ops.size → listed.getD j false = true := by
  intro listed hs hr j hj;cases h : listed.getD j false with
  | true => rfl
  | false => exact absurd hr (Z7p hback hs j hj h)
 intro k;induction k with
 | zero =>
   intro listed a w hs hL hk hI;have hr : Region.ready md ops listed = [] := by
    refine List.eq_nil_iff_forall_not_mem.2 fun i hi => ?_;obtain ⟨h0, o, ho, _⟩ := mem_ready.1 hi;have hil : i < ops.size := (Array.getElem?_eq_some_iff.1 ho).1;have h1 : i ∈ L := (hL i hil).resolve_left (by rw [← Z9z (by omega), h0]; simp);have : i ∈ L.filter fun j => !listed.getD j true := List.mem_filter.2 ⟨h1, by rw [h0]; rfl⟩;have := List.length_pos_of_mem this;omega
   exact ⟨hr, hE listed a w (done listed hs hr) hI⟩
 | succ k ih =>
   intro listed a w hs hL hk hI;refine ⟨fun hr => hE listed a w (done listed hs hr) hI, fun i hi => ?_⟩;obtain ⟨h0, o, ho, hall⟩ := mem_ready.1 hi;have hil : i < ops.size := (Array.getElem?_eq_some_iff.1 ho).1;have h0' : listed.getD i false = false := by rw [← Z9z (by omega)]; exact h0
   have h1 : i ∈ L := (hL i hil).resolve_left (by rw [h0']; simp);refine wpOp_mono (fun a' w' h => ⟨trivial, ih _ a' w' (by simpa using hs) (fun j hj => ?_) ?_ h⟩) (hS listed i a w hs h1 hil h0' (fun j hj => Z7d hj hi) hI)
   ·rw [Z37 (by omega)];by_cases e : i = j;·rw [if_pos e]; exact .inl rfl
    ·rw [if_neg e]; exact hL j hj
   ·have hlt : (L.filter fun j => !(listed.setIfInBounds i true).getD j true).length < (L.filter fun j => !listed.getD j true).length := by
     have sub : ∀ l : List Nat, (l.filter fun j => !(listed.setIfInBounds i true).getD j true).length ≤ (l.filter fun j => !listed.getD j true).length ∧ (i ∈ l → (l.filter fun j => !(listed.setIfInBounds i true).getD j true).length < (l.filter fun j => !listed.getD j true).length) := by
      intro l;induction l with
      | nil => exact ⟨Nat.le_refl _, fun h => by cases h⟩
      | cons x l ihl =>
        by_cases e : i = x
        ·subst e;have e1 : (listed.setIfInBounds i true).getD i true = true := by simp [show i < listed.size by omega]
         simp only [List.filter_cons, e1, h0, Bool.not_true, Bool.not_false, if_true, Bool.false_eq_true, if_false, List.length_cons];exact ⟨by omega, fun _ => by omega⟩
        ·have e1 : (listed.setIfInBounds i true).getD x true = listed.getD x true := getD_set_ne true e;simp only [List.filter_cons, e1];cases listed.getD x true
         ·simp only [Bool.not_false, if_true, List.length_cons];exact ⟨by omega, fun h => by have := ihl.2 (by rcases List.mem_cons.1 h with h | h; exact absurd h e; exact h); omega⟩
         ·simp only [Bool.not_true, Bool.false_eq_true, if_false];exact ⟨ihl.1, fun h => ihl.2 (by rcases List.mem_cons.1 h with h | h; exact absurd h e; exact h)⟩
     exact (sub L).2 h1
    omega
theorem Zat {Q : Exit → Act → World → Prop} (hsel : Region.noSelect ops = true) (hQ : ∀ c a d v w, Q (.panic c) (Act.put a d v) w → Q (.panic c) a w) {w : World} {fuel : Nat} :
 ∀ (l : List Nat) (listed : Array Bool) (a : Act), Zhj md ops l listed = true → (∀ i ∈ l, i < ops.size) → Zbq P ops (fun a' => wpAnyH P md ops Q (fun _ => True) fuel (Z12 l listed) a' w) (l.filterMap (ops[·]?)) a → wpAnyH P md ops Q (fun _ => True) (fuel + l.length) listed a w
 | [], listed, a, _, _, h => h
 | i :: l, listed, a, hB, hin, h => by
   simp only [Zhj, Bool.and_eq_true] at hB;obtain ⟨⟨hr, hf⟩, hB'⟩ := hB;have hil := hin i (List.mem_cons_self ..);have ho : ops[i]? = some ops[i] := Array.getElem?_eq_getElem hil;rw [List.filterMap_cons, ho] at h;obtain ⟨v, hy, h'⟩ := h;have e : fuel + (i :: l).length = (fuel + l.length) + 1 := by simp; omega
   rw [e];exact wpAnyH_take ho hsel hf hr (fun c a w => hQ c a _ _ w) hy trivial (Zat hsel hQ l _ _ hB' (fun j hj => hin j (List.mem_cons_of_mem _ hj)) h')
theorem Z9y {Q : Exit → Act → World → Prop} {id : Nat} {l : List Oper} {a : Act} {w : World} (pre L ph : List Nat) (hm : P.follows .mixedOrders = true)
 (hB : dagB .any l.toArray pre L ph = true) (hQ : ∀ c a d v w, Q (.panic c) (Act.put a d v) w → Q (.panic c) a w) (Inv : Array Bool → Act → World → Prop)
 (hP : Zbq P l.toArray (fun a' => Inv (Z12 pre (Z12 ph (Array.replicate l.toArray.size false))) a' w.drew) (pre.filterMap (l.toArray[·]?)) a)
 (hS : ∀ listed i a w, listed.size = l.toArray.size → i ∈ L → i < l.toArray.size → listed.getD i false = false → (∀ j, waits .any l.toArray i j = true → listed.getD j false = true) → Inv listed a w → wpOp P l.toArray (Ends (wpList P l.toArray Q (ph.filterMap (l.toArray[·]?))) Q) i (fun a' w' => Inv (listed.setIfInBounds i true) a' w') a w)
 (hE : ∀ listed a w, (∀ j, j < l.toArray.size → listed.getD j false = true) → Inv listed a w → wpList P l.toArray Q (ph.filterMap (l.toArray[·]?)) a w) : (Code.region id l.toArray true).wp P Q a w := by
 simp only [dagB, Bool.and_eq_true, decide_eq_true_eq] at hB;obtain ⟨⟨⟨⟨⟨⟨hsel, hph⟩, hseq⟩, hpre⟩, hlen⟩, hin1⟩, hcov⟩ := hB;refine wp_region_any hm ?_;have hback : Zgk .any l.toArray = true := by
  cases ph with
  | nil => simp [Z42] at hph
  | cons t r => simp only [Z42, Bool.and_eq_true] at hph; exact hph.1.1.1
 have hin : ∀ t ∈ ph, t < l.toArray.size := by
  cases ph with
  | nil => simp [Z42] at hph
  | cons t r =>
    simp only [Z42, Bool.and_eq_true] at hph;intro u hu;simpa using List.all_eq_true.1 hph.1.1.2 u hu
 have hsz : (Z12 pre (Z12 ph (Array.replicate l.toArray.size false))).size = l.toArray.size := by rw [Z3v, Z3v]; simp
 have G : ∀ a w, Inv (Z12 pre (Z12 ph (Array.replicate l.toArray.size false))) a w → wpAnyH P .any l.toArray (Ends (wpList P l.toArray Q (ph.filterMap (l.toArray[·]?))) Q) (fun _ => True) L.length (Z12 pre (Z12 ph (Array.replicate l.toArray.size false))) a w := fun a w h =>
  Zfz (P := P) (Q := Ends (wpList P l.toArray Q (ph.filterMap (l.toArray[·]?))) Q) Inv hback hS hE L.length _ a w hsz (fun j hj => by
   have h1 := List.all_eq_true.1 hcov j (List.mem_range.2 hj);simp only [Bool.or_eq_true, List.contains_eq_mem, decide_eq_true_eq] at h1;rcases h1 with (h1 | h1) | h1;·exact .inl (Z4n h1 (by rw [Z3v]; simpa using hj))
   ·exact .inr h1
   ·exact .inl (Z3h (Z4n h1 (by simpa using hj)))) (List.length_filter_le _ _) h
 have mono : ∀ (os : List Oper) (a : Act), Zbq P l.toArray (fun a' => Inv (Z12 pre (Z12 ph (Array.replicate l.toArray.size false))) a' w.drew) os a → Zbq P l.toArray (fun a' => wpAnyH P .any l.toArray (Ends (wpList P l.toArray Q (ph.filterMap (l.toArray[·]?))) Q) (fun _ => True) L.length (Z12 pre (Z12 ph (Array.replicate l.toArray.size false))) a' w.drew) os a := by
  intro os;induction os with
  | nil => intro a h; exact G a w.drew h
  | cons o os ih => intro a h; obtain ⟨v, hy, h⟩ := h; exact ⟨v, hy, ih _ h⟩
 have H := Zat (P := P) (md := .any) (Q := Ends (wpList P l.toArray Q (ph.filterMap (l.toArray[·]?))) Q) hsel hQ pre _ a hpre (fun i hi => by simpa using List.all_eq_true.1 hin1 i hi) (mono _ a hP);have key := Z85 (Q := Q) hph (fun m hs hm' => ?_) (L.length + pre.length) (Array.replicate l.toArray.size false) a w.drew (by simp) ?_ ?_ (wpAny_of_held _ _ _ _ H);·rw [show L.length + pre.length + ph.length = l.toArray.size by omega] at key; exact key
 ·have : m = ((List.range l.toArray.size).map fun j => !ph.contains j).toArray := by
   apply Array.ext;·simp only [hs, List.size_toArray, List.length_map, List.length_range]
   ·intro j h1 h2;have := hm' j (by omega);simp only [List.getElem_toArray, List.getElem_map, List.getElem_range];rw [← this];simp [h1]
  rw [this]; exact hseq
 ·intro j o _ hl;rw [Z5t] at hl;cases hl
 ·intro t _;exact Z5t _ _
end
end Go.Proofs.YtgmnfgljkocnpaaGreatDoor
