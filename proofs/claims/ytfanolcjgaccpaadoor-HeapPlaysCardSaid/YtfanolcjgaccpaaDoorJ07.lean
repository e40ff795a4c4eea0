/- A region that draws its order, walked once, in an order of one's own: what only reads is taken first ('true'), what changes the world comes when nothing else may ('false'); the last part ('ph') waits for all that stands ahead of it. Walks of package heap: Many, ObjectOf, OuterOf, KindOf. The library's contracts that are cited, laid by the shelf's own tools: Tryd.strings_Join, Tryd.strings_Join_none. -/
import Derived.OrdersHeld
import Derived.Tactics
import Derived.KernelRfl
import Derived.Laws.World
import Derived.Test.YtfanolcjgaccpaaDoorJ04
import Derived.Test.YtfanolcjgaccpaaDoorJ06
import Derived.Shelf.Strings.OnBuilder
import Derived.Test.YtfanolcjgaccpaaDoorProg
namespace Go.Proofs.YtfanolcjgaccpaaDoor
open Go

section
variable {P : Program} {ops : Array Oper} {md : Region.Mode}

/-- Q, but for the normal end. -/
def Ends (K : Act → World → Prop) (Q : Exit → Act → World → Prop) : Exit → Act → World → Prop
  | .normal, a, w => K a w
  | e, a, w => Q e a w

theorem wp_post {Q Q' : Exit → Act → World → Prop} {o : Oper} {a : Act} {w : World} {K : Act → World → Prop}
    (hp : ∀ c a w, Q' (.panic c) a w → Q (.panic c) a w) (ho : LetsOut Q' → LetsOut Q) (h : o.wp P a w K Q') : o.wp P a w K Q := by
  unfold Oper.wp at *
  generalize (execOp a.eval o).run P w = r at *
  cases r with
  | ok n w' =>
    cases n <;> simp only [Oper.upon] at h ⊢ <;>
      first
        | exact h
        | exact Calls.mono h (fun e w'' he => by cases e <;> first | exact he | exact hp _ _ _ he | exact ho he)
  | halt x w' => cases x <;> simp only [Oper.upon] at h ⊢ <;> exact hp _ _ _ h

theorem wpOp_ends {Q : Exit → Act → World → Prop} {R : Act → World → Prop} {i : Nat} {a : Act} {w : World} {K : Act → World → Prop}
    (h : wpOp P ops (Ends R Q) i K a w) : wpOp P ops Q i K a w := by
  unfold wpOp at *
  split
  · rename_i ho; simp only [ho] at h; exact h
  · rename_i o ho
    simp only [ho] at h
    split
    · rename_i hw
      simp only [hw, if_true] at h
      rcases h with h | ⟨h1, h2⟩
      · exact .inl (wp_post (fun _ _ _ h => h) (fun h => h) h)
      · exact .inr ⟨h1, h2⟩
    · rename_i hw; simp only [hw] at h; exact h

theorem wpAny_fuel {Q : Exit → Act → World → Prop} : ∀ (f : Nat) (listed : Array Bool) (a : Act) (w : World), wpAny P md ops Q f listed a w → wpAny P md ops Q (f + 1) listed a w
  | 0, listed, a, w, h => ⟨fun _ => h.2, by rw [h.1]; simp⟩
  | f + 1, listed, a, w, h => ⟨h.1, fun i hi => wpOp_mono (fun a' w' h' => wpAny_fuel f _ a' w' h') (h.2 i hi)⟩

theorem wpAny_fuels {Q : Exit → Act → World → Prop} {f g : Nat} (hfg : f ≤ g) {listed : Array Bool} {a : Act} {w : World} (h : wpAny P md ops Q f listed a w) : wpAny P md ops Q g listed a w := by
  obtain ⟨d, rfl⟩ := Nat.exists_eq_add_of_le hfg
  induction d with
  | zero => exact h
  | succ d ih => exact wpAny_fuel _ _ _ _ (ih (by omega))

theorem getD_repl (m j : Nat) : (Array.replicate m false).getD j false = false := by
  rcases Nat.lt_or_ge j m with h | h <;> simp [h]

def markAll (l : List Nat) (m : Array Bool) : Array Bool := l.foldl (fun m i => m.setIfInBounds i true) m

theorem size_markAll (l : List Nat) (m : Array Bool) : (markAll l m).size = m.size := by
  unfold markAll
  induction l generalizing m with
  | nil => rfl
  | cons i l ih => simp only [List.foldl_cons]; rw [ih]; simp

theorem markAll_getD_not {l : List Nat} {m : Array Bool} {j : Nat} (d : Bool) (h : j ∉ l) : (markAll l m).getD j d = m.getD j d := by
  unfold markAll
  induction l generalizing m with
  | nil => rfl
  | cons i l ih =>
    simp only [List.mem_cons, not_or] at h
    simp only [List.foldl_cons]
    rw [ih h.2, getD_set_ne d (Ne.symm h.1)]

theorem markAll_getD_keep {l : List Nat} {m : Array Bool} {j : Nat} (h : m.getD j false = true) : (markAll l m).getD j false = true := by
  unfold markAll
  induction l generalizing m with
  | nil => exact h
  | cons i l ih => simp only [List.foldl_cons]; exact ih (getD_set_true h)

theorem markAll_getD_in {l : List Nat} {m : Array Bool} {j : Nat} (h : j ∈ l) (hj : j < m.size) : (markAll l m).getD j false = true := by
  unfold markAll
  induction l generalizing m with
  | nil => cases h
  | cons i l ih =>
    simp only [List.foldl_cons]
    rcases List.mem_cons.1 h with rfl | h
    · exact markAll_getD_keep (l := l) (by simp [hj])
    · exact ih h (by simpa using hj)

theorem set_comm_true (m : Array Bool) (i j : Nat) : (m.setIfInBounds i true).setIfInBounds j true = (m.setIfInBounds j true).setIfInBounds i true := by
  by_cases h : i = j
  · subst h; rfl
  · exact Array.setIfInBounds_comm _ _ h

theorem markAll_set (l : List Nat) (m : Array Bool) (i : Nat) : markAll l (m.setIfInBounds i true) = (markAll l m).setIfInBounds i true := by
  unfold markAll
  induction l generalizing m with
  | nil => rfl
  | cons j l ih => simp only [List.foldl_cons]; rw [set_comm_true, ih]

def Closed (md : Region.Mode) (ops : Array Oper) (m : Array Bool) : Prop :=
  ∀ j o, ops[j]? = some o → m.getD j false = true → ∀ e ∈ o.after, Region.binds md e = true → m.getD e.on false = true

theorem Closed.set {m : Array Bool} (h : Closed md ops m) {i : Nat} (hi : i ∈ Region.ready md ops m) : Closed md ops (m.setIfInBounds i true) := by
  obtain ⟨_, oi, hoi, hall⟩ := mem_ready.1 hi
  intro j o hj hl e he hb
  by_cases hij : i = j
  · subst hij
    have : o = oi := Option.some.inj (hj.symm.trans hoi)
    subst this
    exact getD_set_true (hall e he hb)
  · rw [getD_set_ne false hij] at hl
    exact getD_set_true (h j o hj hl e he hb)

/-- what number j waits for, marked -/
def markAfter (md : Region.Mode) (ops : Array Oper) (m : Array Bool) (j : Nat) : Array Bool :=
  match ops[j]? with
  | some o => o.after.toList.foldl (fun m e => if Region.binds md e then m.setIfInBounds e.on true else m) m
  | none => m
def downs (md : Region.Mode) (ops : Array Oper) (t : Nat) : Array Bool :=
  (List.range t).reverse.foldl (fun m j => if m.getD j false then markAfter md ops m j else m) (markAfter md ops (Array.replicate ops.size false) t)

theorem markAfter_sub {m listed : Array Bool} (hm : ∀ k, m.getD k false = true → listed.getD k false = true) {j : Nat}
    (hj : ∀ o, ops[j]? = some o → ∀ e ∈ o.after, Region.binds md e = true → listed.getD e.on false = true) : ∀ k, (markAfter md ops m j).getD k false = true → listed.getD k false = true := by
  unfold markAfter
  cases ho : ops[j]? with
  | none => exact hm
  | some o =>
    simp only
    have hall := hj o ho
    have : ∀ (l : List Edge), (∀ e ∈ l, Region.binds md e = true → listed.getD e.on false = true) → ∀ m : Array Bool, (∀ k, m.getD k false = true → listed.getD k false = true) →
        ∀ k, (l.foldl (fun m e => if Region.binds md e then m.setIfInBounds e.on true else m) m).getD k false = true → listed.getD k false = true := by
      intro l
      induction l with
      | nil => intro _ m hm; exact hm
      | cons e l ih =>
        intro he m hm
        simp only [List.foldl_cons]
        refine ih (fun e' h' => he e' (List.mem_cons_of_mem _ h')) _ fun k hk => ?_
        by_cases hb : Region.binds md e = true
        · rw [if_pos hb] at hk
          by_cases hke : e.on = k
          · subst hke; exact he e (List.mem_cons_self ..) hb
          · rw [getD_set_ne false hke] at hk; exact hm k hk
        · rw [if_neg hb] at hk; exact hm k hk
    exact this o.after.toList (fun e he => hall e (Array.mem_toList_iff.1 he)) m hm

theorem downs_sub {listed : Array Bool} (hc : Closed md ops listed) {t : Nat} (ht : ∀ o, ops[t]? = some o → ∀ e ∈ o.after, Region.binds md e = true → listed.getD e.on false = true) :
    ∀ k, (downs md ops t).getD k false = true → listed.getD k false = true := by
  unfold downs
  have h0 : ∀ k, (markAfter md ops (Array.replicate ops.size false) t).getD k false = true → listed.getD k false = true :=
    markAfter_sub (fun k hk => by
      rcases Nat.lt_or_ge k ops.size with h | h
      · simp [h] at hk
      · simp [h] at hk) ht
  have : ∀ (l : List Nat) (m : Array Bool), (∀ k, m.getD k false = true → listed.getD k false = true) →
      ∀ k, (l.foldl (fun m j => if m.getD j false then markAfter md ops m j else m) m).getD k false = true → listed.getD k false = true := by
    intro l
    induction l with
    | nil => intro m hm; exact hm
    | cons j l ih =>
      intro m hm
      simp only [List.foldl_cons]
      refine ih _ ?_
      by_cases hj : m.getD j false = true
      · rw [if_pos hj]
        exact markAfter_sub hm (fun o ho e he hb => hc j o ho (hm j hj) e he hb)
      · rw [if_neg hj]; exact hm
  exact this _ _ h0

def waits (md : Region.Mode) (ops : Array Oper) (j i : Nat) : Bool :=
  match ops[j]? with
  | some o => o.after.any fun e => Region.binds md e && e.on == i
  | none => false

def backB (md : Region.Mode) (ops : Array Oper) : Bool :=
  (List.range ops.size).all fun j => match ops[j]? with | some o => o.after.all fun e => !Region.binds md e || decide (e.on < j) | none => true
def chainsB (md : Region.Mode) (ops : Array Oper) : Nat → List Nat → Bool
  | _, [] => true
  | t, u :: r => waits md ops u t && chainsB md ops u r
/-- The last part comes last, in its own order. -/
def phaseB (md : Region.Mode) (ops : Array Oper) : List Nat → Bool
  | [] => false
  | t :: r => backB md ops && ((t :: r).all fun j => decide (j < ops.size)) && ((List.range ops.size).all fun j => (t :: r).contains j || (downs md ops t).getD j false) && chainsB md ops t r
def seqsB (md : Region.Mode) (ops : Array Oper) : List Nat → Array Bool → Bool
  | [], listed => (Region.ready md ops listed).isEmpty
  | t :: r, listed => decide (Region.ready md ops listed = [t]) && seqsB md ops r (listed.setIfInBounds t true)

theorem chains_waits {t : Nat} : ∀ {r : List Nat}, chainsB md ops t r = true → ∀ u ∈ r, ∃ s ∈ t :: r, waits md ops u s = true := by
  intro r
  induction r generalizing t with
  | nil => intro _ u hu; cases hu
  | cons v r ih =>
    intro h u hu
    simp only [chainsB, Bool.and_eq_true] at h
    rcases List.mem_cons.1 hu with rfl | hu
    · exact ⟨t, List.mem_cons_self .., h.1⟩
    · obtain ⟨s, hs, hw⟩ := ih h.2 u hu
      exact ⟨s, List.mem_cons_of_mem _ hs, hw⟩

theorem waits_spec {j i : Nat} (h : waits md ops j i = true) {m : Array Bool} (hj : j ∈ Region.ready md ops m) : m.getD i false = true := by
  obtain ⟨_, o, ho, hall⟩ := mem_ready.1 hj
  unfold waits at h
  rw [ho] at h
  obtain ⟨e, he, hb⟩ := Array.any_eq_true'.1 h
  simp only [Bool.and_eq_true, beq_iff_eq] at hb
  rw [← hb.2]
  exact hall e he hb.1

theorem not_ready {ph : List Nat} (hB : phaseB md ops ph = true) {m : Array Bool} (hc : Closed md ops m) (hun : ∀ t ∈ ph, m.getD t false = false)
    {j : Nat} (hj : j < ops.size) (hjp : j ∉ ph) (hju : m.getD j false = false) : ∀ t ∈ ph, t ∉ Region.ready md ops m := by
  cases ph with
  | nil => simp [phaseB] at hB
  | cons t r =>
    simp only [phaseB, Bool.and_eq_true] at hB
    obtain ⟨⟨⟨_, _⟩, hd⟩, hch⟩ := hB
    intro u hu hr
    rcases List.mem_cons.1 hu with rfl | hu'
    · obtain ⟨_, o, ho, hall⟩ := mem_ready.1 hr
      have h1 := List.all_eq_true.1 hd j (List.mem_range.2 hj)
      simp only [Bool.or_eq_true, List.contains_eq_mem, decide_eq_true_eq] at h1
      have h2 := h1.resolve_left hjp
      have := downs_sub hc (t := u) (fun o' ho' e he hb => by
        have : o' = o := Option.some.inj (ho'.symm.trans ho)
        subst this
        exact hall e he hb) j h2
      rw [hju] at this
      cases this
    · obtain ⟨s, hs, hw⟩ := chains_waits hch u hu'
      have h3 := waits_spec hw hr
      rw [hun s hs] at h3
      cases h3

theorem getD_TF {m : Array Bool} {j : Nat} (h : j < m.size) : m.getD j true = m.getD j false := by simp [h]

theorem some_ready (hB : backB md ops = true) {m : Array Bool} (hs : m.size = ops.size) : ∀ j, j < ops.size → m.getD j false = false → Region.ready md ops m ≠ [] := by
  intro j
  induction j using Nat.strongRecOn with
  | _ j ih =>
    intro hj hju
    have ho : ops[j]? = some ops[j] := Array.getElem?_eq_getElem hj
    have h1 := List.all_eq_true.1 hB j (List.mem_range.2 hj)
    rw [ho] at h1
    simp only [Array.all_eq_true_iff_forall_mem, Bool.or_eq_true, Bool.not_eq_true', decide_eq_true_eq] at h1
    by_cases hall : ∀ e ∈ ops[j].after, Region.binds md e = true → m.getD e.on false = true
    · intro h0
      have : j ∈ Region.ready md ops m := mem_ready.2 ⟨by rw [getD_TF (by omega)]; exact hju, _, ho, hall⟩
      rw [h0] at this
      cases this
    · simp only [Classical.not_forall] at hall
      obtain ⟨e, he, hb, hn⟩ := hall
      have hlt : e.on < j := (h1 e he).resolve_left (by simp [hb])
      exact ih e.on hlt (by omega) (by simpa using hn)

theorem wpAny_of_seqs {Q : Exit → Act → World → Prop} : ∀ (l : List Nat) (listed : Array Bool) (a : Act) (w : World), seqsB md ops l listed = true →
    wpList P ops Q (l.filterMap (ops[·]?)) a w → wpAny P md ops Q l.length listed a w
  | [], listed, a, w, hB, h => ⟨by simpa [seqsB] using hB, h⟩
  | t :: l, listed, a, w, hB, h => by
    simp only [seqsB, Bool.and_eq_true, decide_eq_true_eq] at hB
    refine ⟨fun h1 => (by rw [hB.1] at h1; cases h1), fun i hi => ?_⟩
    have hi' := hi
    rw [hB.1] at hi
    have hit : i = t := by simpa using hi
    subst hit
    obtain ⟨_, o, ho, _⟩ := mem_ready.1 hi'
    rw [List.filterMap_cons, ho] at h
    simp only [wpList] at h
    have hw : wpOp P ops Q i (wpList P ops Q (l.filterMap (ops[·]?))) a w := by unfold wpOp; simp only [ho]; exact h
    exact wpOp_mono (fun a' w' h' => wpAny_of_seqs l _ a' w' hB.2 h') hw

theorem wpAny_phase {Q : Exit → Act → World → Prop} {ph : List Nat} (hB : phaseB md ops ph = true) (hseq : ∀ m : Array Bool, m.size = ops.size → (∀ j, j < ops.size → m.getD j false = !ph.contains j) → seqsB md ops ph m = true) :
    ∀ (f : Nat) (listed : Array Bool) (a : Act) (w : World), listed.size = ops.size → Closed md ops listed → (∀ t ∈ ph, listed.getD t false = false) →
      wpAny P md ops (Ends (wpList P ops Q (ph.filterMap (ops[·]?))) Q) f (markAll ph listed) a w → wpAny P md ops Q (f + ph.length) listed a w := by
  have hback : backB md ops = true := by
    cases ph with
    | nil => simp [phaseB] at hB
    | cons t r => simp only [phaseB, Bool.and_eq_true] at hB; exact hB.1.1.1
  have hin : ∀ t ∈ ph, t < ops.size := by
    cases ph with
    | nil => simp [phaseB] at hB
    | cons t r =>
      simp only [phaseB, Bool.and_eq_true] at hB
      intro u hu
      simpa using List.all_eq_true.1 hB.1.1.2 u hu
  -- all of the first part has come up
  have fin : ∀ (g : Nat) (listed : Array Bool) (a : Act) (w : World), listed.size = ops.size → (∀ t ∈ ph, listed.getD t false = false) → (∀ j, j < ops.size → j ∉ ph → listed.getD j false = true) →
      wpList P ops Q (ph.filterMap (ops[·]?)) a w → wpAny P md ops Q (g + ph.length) listed a w := by
    intro g listed a w hs hun hall h
    refine wpAny_fuels (Nat.le_add_left _ _) (wpAny_of_seqs ph listed a w (hseq listed hs fun j hj => ?_) h)
    by_cases hjp : j ∈ ph
    · rw [hun j hjp]; simp [hjp]
    · rw [hall j hj hjp]; simp [hjp]
  have done : ∀ (listed : Array Bool), listed.size = ops.size → Region.ready md ops (markAll ph listed) = [] → ∀ j, j < ops.size → j ∉ ph → listed.getD j false = true := by
    intro listed hs hr j hj hjp
    cases h : listed.getD j false with
    | true => rfl
    | false => exact absurd hr (some_ready hback (by rw [size_markAll]; exact hs) j hj (by rw [markAll_getD_not false hjp]; exact h))
  intro f
  induction f with
  | zero =>
    intro listed a w hs hc hun h
    exact fin 0 listed a w hs hun (done listed hs h.1) h.2
  | succ f ih =>
    intro listed a w hs hc hun h
    by_cases hall : ∀ j, j < ops.size → j ∉ ph → listed.getD j false = true
    · refine fin (f + 1) listed a w hs hun hall (h.1 ?_)
      refine List.eq_nil_iff_forall_not_mem.2 fun i hi => ?_
      obtain ⟨h0, o, ho, _⟩ := mem_ready.1 hi
      have hil : i < ops.size := (Array.getElem?_eq_some_iff.1 ho).1
      rw [getD_TF (by rw [size_markAll]; omega)] at h0
      by_cases hip : i ∈ ph
      · rw [markAll_getD_in hip (by omega)] at h0; cases h0
      · rw [markAll_getD_not false hip, hall i hil hip] at h0; cases h0
    · simp only [Classical.not_forall] at hall
      obtain ⟨j, hj, hjp, hju⟩ := hall
      have hju' : listed.getD j false = false := by simpa using hju
      have hnr := not_ready hB hc hun hj hjp hju'
      rw [show f + 1 + ph.length = (f + ph.length) + 1 by omega]
      refine ⟨fun h0 => absurd h0 (some_ready hback hs j hj hju'), fun i hi => ?_⟩
      have hip : i ∉ ph := fun hp => hnr i hp hi
      obtain ⟨h0, o, ho, hae⟩ := mem_ready.1 hi
      have hi' : i ∈ Region.ready md ops (markAll ph listed) := mem_ready.2 ⟨by rw [markAll_getD_not true hip]; exact h0, o, ho, fun e he hb => markAll_getD_keep (hae e he hb)⟩
      refine wpOp_mono (fun a' w' h' => ?_) (wpOp_ends (h.2 i hi'))
      refine ih _ a' w' (by simpa using hs) (hc.set hi) (fun t ht => ?_) (by rw [markAll_set]; exact h')
      rw [getD_set_ne false (by rintro rfl; exact hip ht)]
      exact hun t ht

/-- What is walked. -/
def wpPlan (P : Program) (ops : Array Oper) (Q : Exit → Act → World → Prop) (S : World → Prop) : List (Bool × Oper) → Act → World → Prop
  | [], a, w => Q .normal a w
  | (true, o) :: r, a, w => ∃ v, YieldsIf P ops S o v a ∧ wpPlan P ops Q S r (a.put o.dst v) w
  | (false, o) :: r, a, w => if Region.wanted o (yielded ops a.tmps) = true then o.wp P a w (fun a' w' => S w' ∧ wpPlan P ops Q S r a' w') Q else wpPlan P ops Q S r (a.put o.dst undef) w

def planB (md : Region.Mode) (ops : Array Oper) : List (Bool × Nat) → Array Bool → Bool
  | [], listed => (Region.ready md ops listed).isEmpty
  | (true, i) :: r, listed => (Region.ready md ops listed).contains i && Region.free md ops listed i && planB md ops r (listed.setIfInBounds i true)
  | (false, i) :: r, listed => decide (Region.ready md ops listed = [i]) && planB md ops r (listed.setIfInBounds i true)

def planOps (ops : Array Oper) (l : List (Bool × Nat)) : List (Bool × Oper) := l.filterMap fun x => (ops[x.2]?).map fun o => (x.1, o)

theorem wpPlan_sound {Q : Exit → Act → World → Prop} {S : World → Prop} (hsel : Region.noSelect ops = true) (hQ : ∀ c a d v w, Q (.panic c) (Act.put a d v) w → Q (.panic c) a w) :
    ∀ (l : List (Bool × Nat)) (listed : Array Bool) (a : Act) (w : World), planB md ops l listed = true → S w → wpPlan P ops Q S (planOps ops l) a w → wpAnyH P md ops Q S l.length listed a w
  | [], listed, a, w, hB, _, h => ⟨by simpa [planB] using hB, h⟩
  | (true, i) :: l, listed, a, w, hB, hS, h => by
    simp only [planB, Bool.and_eq_true] at hB
    obtain ⟨⟨hr, hf⟩, hB'⟩ := hB
    obtain ⟨_, o, ho, _⟩ := mem_ready.1 (show i ∈ Region.ready md ops listed by simpa using hr)
    have e : planOps ops ((true, i) :: l) = (true, o) :: planOps ops l := by simp [planOps, ho]
    rw [e] at h
    obtain ⟨v, hy, h'⟩ := h
    exact wpAnyH_take ho hsel hf hr (fun c a w => hQ c a _ _ w) hy hS (wpPlan_sound hsel hQ l _ _ w hB' hS h')
  | (false, i) :: l, listed, a, w, hB, hS, h => by
    simp only [planB, Bool.and_eq_true, decide_eq_true_eq] at hB
    obtain ⟨hr, hB'⟩ := hB
    obtain ⟨_, o, ho, _⟩ := mem_ready.1 (show i ∈ Region.ready md ops listed by rw [hr]; simp)
    have e : planOps ops ((false, i) :: l) = (false, o) :: planOps ops l := by simp [planOps, ho]
    rw [e] at h
    refine wpAnyH_all hr (by simp) fun k hk => ?_
    have hki : k = i := by simpa using hk
    subst hki
    unfold wpOp
    simp only [ho]
    unfold wpPlan at h
    split at h
    · rename_i hw
      rw [if_pos hw]
      exact .inl (Oper.wp_mono (fun a' w' h' => ⟨h'.1, wpPlan_sound hsel hQ l _ a' w' hB' h'.1 h'.2⟩) h)
    · rename_i hw
      rw [if_neg hw]
      exact ⟨hS, wpPlan_sound hsel hQ l _ _ w hB' hS h⟩

theorem wpPlan_take {Q : Exit → Act → World → Prop} {S : World → Prop} {o : Oper} {r : List (Bool × Oper)} {a : Act} {w : World} (v : Value)
    (hw : Region.wanted o (yielded ops a.tmps) = true) (hy : ∀ w', S w' → (execOp a.eval o).run P w' = .ok (.value v) w') (h : wpPlan P ops Q S r (a.put o.dst v) w) : wpPlan P ops Q S ((true, o) :: r) a w :=
  ⟨v, .inl ⟨hw, hy⟩, h⟩
theorem wpPlan_skip {Q : Exit → Act → World → Prop} {S : World → Prop} {o : Oper} {r : List (Bool × Oper)} {a : Act} {w : World}
    (hw : Region.wanted o (yielded ops a.tmps) = false) (h : wpPlan P ops Q S r (a.put o.dst undef) w) : wpPlan P ops Q S ((true, o) :: r) a w :=
  ⟨undef, .inr ⟨hw, rfl⟩, h⟩
theorem wpPlan_go {Q : Exit → Act → World → Prop} {S : World → Prop} {o : Oper} {r : List (Bool × Oper)} {a : Act} {w : World}
    (h : ∀ K : Act → World → Prop, (∀ a' w', S w' → wpPlan P ops Q S r a' w' → K a' w') → if Region.wanted o (yielded ops a.tmps) = true then o.wp P a w K Q else K (a.put o.dst undef) w) :
    wpPlan P ops Q S ((false, o) :: r) a w := by
  unfold wpPlan
  by_cases hw : Region.wanted o (yielded ops a.tmps) = true
  · rw [if_pos hw]
    have := h (fun a' w' => S w' ∧ wpPlan P ops Q S r a' w') (fun _ _ h1 h2 => ⟨h1, h2⟩)
    rwa [if_pos hw] at this
  · rw [if_neg hw]
    have := h (fun a' w' => S w' ∧ wpPlan P ops Q S r a' w') (fun _ _ h1 h2 => ⟨h1, h2⟩)
    rw [if_neg hw] at this
    exact this.2

theorem wpPlan_end {Q : Exit → Act → World → Prop} {S : World → Prop} {a : Act} {w : World} {l : List Oper} (h : wpList P ops Q l a w) : wpPlan P ops (Ends (wpList P ops Q l) Q) S [] a w := h
theorem wpPlan_nil {Q : Exit → Act → World → Prop} {S : World → Prop} {a : Act} {w : World} (h : Q .normal a w) : wpPlan P ops Q S [] a w := h

def allB (md : Region.Mode) (ops : Array Oper) (plan : List (Bool × Nat)) (ph : List Nat) : Bool :=
  Region.noSelect ops && phaseB md ops ph && seqsB md ops ph (((List.range ops.size).map fun j => !ph.contains j).toArray) && planB md ops plan (markAll ph (Array.replicate ops.size false)) && decide (plan.length + ph.length = ops.size)
def onlyB (md : Region.Mode) (ops : Array Oper) (plan : List (Bool × Nat)) : Bool :=
  Region.noSelect ops && planB md ops plan (Array.replicate ops.size false) && decide (plan.length = ops.size)

/-- THE REGION, ITS LAST PART BY 'wpList'. -/
theorem wp_region_plan {Q : Exit → Act → World → Prop} {id : Nat} {l : List Oper} {a : Act} {w : World} (plan : List (Bool × Nat)) (ph : List Nat) (S : World → Prop) (hm : P.follows .mixedOrders = true)
    (hB : allB .any l.toArray plan ph = true) (hQ : ∀ c a d v w, Q (.panic c) (Act.put a d v) w → Q (.panic c) a w) (hS : S w.drew)
    (h : S w.drew → wpPlan P l.toArray (Ends (wpList P l.toArray Q (ph.filterMap (l.toArray[·]?))) Q) S (planOps l.toArray plan) a w.drew) : (Code.region id l.toArray true).wp P Q a w := by
  simp only [allB, Bool.and_eq_true, decide_eq_true_eq] at hB
  obtain ⟨⟨⟨⟨hsel, hph⟩, hseq⟩, hplan⟩, hlen⟩ := hB
  refine wp_region_any hm ?_
  have hin : ∀ t ∈ ph, t < l.toArray.size := by
    cases ph with
    | nil => simp [phaseB] at hph
    | cons t r =>
      simp only [phaseB, Bool.and_eq_true] at hph
      intro u hu
      simpa using List.all_eq_true.1 hph.1.1.2 u hu
  have H := wpPlan_sound (P := P) (md := .any) (Q := Ends (wpList P l.toArray Q (ph.filterMap (l.toArray[·]?))) Q) hsel hQ plan _ a w.drew hplan hS (h hS)
  have key := wpAny_phase (Q := Q) hph (fun m hs hm' => ?_) plan.length (Array.replicate l.toArray.size false) a w.drew (by simp) ?_ ?_ (wpAny_of_held _ _ _ _ H)
  · rw [hlen] at key; exact key
  · have : m = ((List.range l.toArray.size).map fun j => !ph.contains j).toArray := by
      apply Array.ext
      · simp only [hs, List.size_toArray, List.length_map, List.length_range]
      · intro j h1 h2
        have := hm' j (by omega)
        simp only [List.getElem_toArray, List.getElem_map, List.getElem_range]
        rw [← this]
        simp [h1]
    rw [this]; exact hseq
  · intro j o _ hl
    rw [getD_repl] at hl
    cases hl
  · intro t _
    exact getD_repl _ _

/-- THE REGION, NO LAST PART. -/
theorem wp_region_only {Q : Exit → Act → World → Prop} {id : Nat} {l : List Oper} {a : Act} {w : World} (plan : List (Bool × Nat)) (S : World → Prop) (hm : P.follows .mixedOrders = true)
    (hB : onlyB .any l.toArray plan = true) (hQ : ∀ c a d v w, Q (.panic c) (Act.put a d v) w → Q (.panic c) a w) (hS : S w.drew)
    (h : S w.drew → wpPlan P l.toArray Q S (planOps l.toArray plan) a w.drew) : (Code.region id l.toArray true).wp P Q a w := by
  simp only [onlyB, Bool.and_eq_true, decide_eq_true_eq] at hB
  obtain ⟨⟨hsel, hplan⟩, hlen⟩ := hB
  refine wp_region_any hm ?_
  have key := wpAny_of_held _ _ _ _ (wpPlan_sound (P := P) (md := .any) hsel hQ plan _ a w.drew hplan hS (h hS))
  rw [hlen] at key
  exact key
end
end Go.Proofs.YtfanolcjgaccpaaDoor

namespace Go.Proofs.YtfanolcjgaccpaaDoor
open Go Go.RowKit
set_option maxRecDepth 100000
set_option linter.unusedVariables false
section
variable {ρ : Nat → Option Role} {w : World} {hb ho : Nat} {L : HL} {H : LHeap}

theorem ownsRow_slice {w : World} {base : Nat} {e : TypeId} {m : Nat} {v : Value} {n : Nat} {xs : List Value} (h : w.ownsRow base e m v n xs) : ∃ a c, v = .slice a n c := by
  rcases ownsRow_cases h with ⟨hv, hz⟩ | ⟨g, c, hv, _⟩
  · exact ⟨none, 0, by rw [hv, hz]⟩
  · exact ⟨_, c, hv⟩

set_option maxHeartbeats 800000 in
theorem many_any (h : HeapAt ρ w hb ho L H) :
    Calls Tryd.prog 26 #[.pointer (some ⟨hb, ho, none⟩)] w fun e w' => e = .returned (.tuple #[.int .i64 H.objects.length, .int .i64 H.scopes.length]) ∧ Below w.heap.size w w' := by
  obtain ⟨a1, c1, e1⟩ := ownsRow_slice h.rowO
  obtain ⟨a2, c2, e2⟩ := ownsRow_slice h.rowS
  have d1 := h.cellO
  have d2 := h.cellS
  rw [e1] at d1
  rw [e2] at d2
  generalize H.objects.length = n1 at *
  generalize H.scopes.length = n2 at *
  clear h e1 e2
  go_enter Tryd.func26, Tryd.ntmps26
  go_wp2_with fail
  refine wp_region_plan [(true, 0), (true, 1), (true, 2), (true, 3), (true, 4), (true, 5), (true, 6), (true, 7), (true, 8), (true, 9), (true, 10)] [11] (fun W => W.cell? ⟨hb, ho, none⟩ = some (.slice a1 n1 c1) ∧ W.cell? ⟨hb, ho + 1, none⟩ = some (.slice a2 n2 c2)) (by kernel_rfl) (by kernel_rfl) (fun _ _ d _ _ h => by cases d <;> exact h) ⟨d1, d2⟩ (fun hS0 => ?_)
  simp only [planOps, List.filterMap_cons, List.filterMap_nil, List.getElem?_toArray, List.getElem?_cons_zero, List.getElem?_cons_succ, Option.map_some]
  iterate 11
    first
      | (refine wpPlan_take ?_ (by rfl) (fun w' hS' => ?_) ?_; rotate_left; (obtain ⟨s0, s1⟩ := hS'; go_simp; first | done | with_reducible rfl); simp only [Act.put, List.setIfInBounds_toArray, List.set_cons_zero, List.set_cons_succ])
      | (refine wpPlan_skip (by rfl) ?_; simp only [Act.put, List.setIfInBounds_toArray, List.set_cons_zero, List.set_cons_succ])
  refine wpPlan_end ?_
  go_wp2
  go_ret2
  exact ⟨rfl, (Below.refl _ _).drew⟩

set_option maxHeartbeats 800000 in
theorem objectOf_any (h : HeapAt ρ w hb ho L H) (n : Int) :
    Calls Tryd.prog 35 #[.pointer (some ⟨hb, ho, none⟩), .int .i64 n] w fun e w' => e = .returned (.int .i64 (match H.scope? n with | some s => s.object | none => -1)) ∧ w' = w := by
  rcases hob : H.scope? n with _ | o
  · have HC := Lib.hid (scope_no h n hob)
    clear h hob
    go_enter Tryd.func35, Tryd.ntmps35
    go_wp2_with fail
    refine HC.out.mono ?_
    rintro e w1 ⟨rfl, rfl⟩
    go_wp2
    go_ret
    exact ⟨rfl, rfl⟩
  · obtain ⟨m, rfl, hm⟩ := LHeap.scope?_some hob
    have HC := Lib.hid (scope_yes h m (getElem?_lt hm))
    have hc : w.cell? ⟨L.sb m, 1, none⟩ = some (.int .i64 o.object) := by have := (h.scp m o hm).1; simp [World.cell?, this]
    clear h hob hm
    go_enter Tryd.func35, Tryd.ntmps35
    go_wp2_with fail
    refine HC.out.mono ?_
    rintro e w1 ⟨rfl, rfl⟩
    go_wp2
    go_ret
    exact ⟨rfl, rfl⟩

set_option maxHeartbeats 800000 in
theorem outerOf_any (h : HeapAt ρ w hb ho L H) (n : Int) :
    Calls Tryd.prog 36 #[.pointer (some ⟨hb, ho, none⟩), .int .i64 n] w fun e w' => e = .returned (.int .i64 (match H.scope? n with | some s => s.outer | none => -1)) ∧ w' = w := by
  rcases hob : H.scope? n with _ | o
  · have HC := Lib.hid (scope_no h n hob)
    clear h hob
    go_enter Tryd.func36, Tryd.ntmps36
    go_wp2_with fail
    refine HC.out.mono ?_
    rintro e w1 ⟨rfl, rfl⟩
    go_wp2
    go_ret
    exact ⟨rfl, rfl⟩
  · obtain ⟨m, rfl, hm⟩ := LHeap.scope?_some hob
    have HC := Lib.hid (scope_yes h m (getElem?_lt hm))
    have hc : w.cell? ⟨L.sb m, 0, none⟩ = some (.int .i64 o.outer) := by have := (h.scp m o hm).1; simp [World.cell?, this]
    clear h hob hm
    go_enter Tryd.func36, Tryd.ntmps36
    go_wp2_with fail
    refine HC.out.mono ?_
    rintro e w1 ⟨rfl, rfl⟩
    go_wp2
    go_ret
    exact ⟨rfl, rfl⟩

set_option maxHeartbeats 1600000 in
theorem kindOf_any (h : HeapAt ρ w hb ho L H) (n : Int) (name : ByteArray) :
    Calls Tryd.prog 29 #[.pointer (some ⟨hb, ho, none⟩), .int .i64 n, .string name] w fun e w' => e = .returned (.int .i64 (H.kindOf n name)) ∧ Below w.heap.size w w' := by
  rcases hob : H.scope? n with _ | s
  · have HC := Lib.hid (scope_no h n hob)
    have e : H.kindOf n name = -1 := by simp [LHeap.kindOf, hob]
    rw [e]
    clear h hob e
    go_enter Tryd.func29, Tryd.ntmps29
    go_wp2_with fail
    refine HC.out.mono ?_
    rintro e w1 ⟨rfl, rfl⟩
    go_wp2
    go_ret
    exact ⟨rfl, Below.refl _ _⟩
  · obtain ⟨m, rfl, hm⟩ := LHeap.scope?_some hob
    have HC := Lib.hid (scope_yes h m (getElem?_lt hm))
    have hc : w.cell? ⟨L.sb m, 1, none⟩ = some (.int .i64 s.object) := by have := (h.scp m s hm).1; simp [World.cell?, this]
    by_cases hso : s.object < 0
    · have HB := Lib.hid (fun w1 (hB1 : Below w.heap.size w w1) => bind_any (h.below hB1) m s hm name)
      have hn0 : decide (0 ≤ s.object) = false := by simp; omega
      rcases hk : s.idx name with _ | k
      · have e : H.kindOf m name = -1 := by simp only [LHeap.kindOf, hob, if_pos hso, hk, Option.bind_none]
        rw [e]
        rw [hk] at HB
        simp only [ptrOpt] at HB
        generalize s.object = oo at *
        clear h hob e hm hk
        go_enter Tryd.func29, Tryd.ntmps29
        go_wp2_with fail
        refine HC.out.mono ?_
        rintro e w1 ⟨rfl, rfl⟩
        go_wp2_with fail
        refine (HB.out _ (Below.refl _ _)).mono ?_
        rintro e w1 ⟨rfl, hB⟩
        have HB1 := Lib.hid hB
        clear hB
        go_wp2
        go_ret
        exact ⟨rfl, HB1.out⟩
      · obtain ⟨b, hb', _⟩ := LScope.idx_some hk
        have e : H.kindOf m name = b.kind := by simp only [LHeap.kindOf, hob, if_pos hso, hk, Option.bind_some, hb']
        rw [e]
        have hown := (h.scp m s hm).2
        rcases ownsRow_cases hown with ⟨hv, hz⟩ | ⟨g, c, hv, h1, h2, hgl⟩
        · have := getElem?_lt hb'; omega
        have hrow := row_cell (f := LBind.cells) (m := 6) (fun _ => rfl) hown (g := g) (by rw [hv]; rfl) (i := k) (j := 4) hb' rfl
        rw [hk, hv] at HB
        simp only [ptrOpt, Value.ownBlock, Option.map_some] at HB
        generalize s.object = oo at *
        generalize b.kind = kd at *
        have HR := Lib.hid hrow
        clear h hob e hm hk hb' hown hv h1 h2 hrow
        go_enter Tryd.func29, Tryd.ntmps29
        go_wp2_with fail
        refine HC.out.mono ?_
        rintro e w1 ⟨rfl, rfl⟩
        go_wp2_with fail
        refine (HB.out _ (Below.refl _ _)).mono ?_
        rintro e w1 ⟨rfl, hB⟩
        have HB1 := Lib.hid hB
        clear hB
        go_wp2_with fail
        refine (HB.out _ HB1.out).mono ?_
        rintro e w2 ⟨rfl, hB⟩
        have HB2 := Lib.hid (HB1.out.trans (hB.mono HB1.out.size))
        have hr : w2.cell? ⟨g, k * 6 + 4, none⟩ = some (.int .i64 kd) := (HB2.out.cell (p := ⟨g, k * 6 + 4, none⟩) hgl).trans HR.out
        clear hB
        go_wp2
        go_ret
        exact ⟨rfl, HB2.out⟩
    · have e : H.kindOf m name = -1 := by simp only [LHeap.kindOf, hob, if_neg hso]
      rw [e]
      have hn0 : decide (0 ≤ s.object) = true := by simp; omega
      generalize s.object = oo at *
      clear h hob e hm
      go_enter Tryd.func29, Tryd.ntmps29
      go_wp2_with fail
      refine HC.out.mono ?_
      rintro e w1 ⟨rfl, rfl⟩
      go_wp2
      go_ret
      exact ⟨rfl, Below.refl _ _⟩
end
end Go.Proofs.YtfanolcjgaccpaaDoor

namespace Go.Proofs

def Tryd.lays156_ren : Go.Shelf.Ren := ⟨fun | 156 => 31 | 165 => 49 | 166 => 50 | 169 => 51 | 240 => 57 | 241 => 58 | 276 => 60 | 277 => 61 | n => n, fun | 31 => 66 | 9 => 9 | 3 => 3 | 4 => 4 | 0 => 0 | 20 => 20 | 72 => 107 | 76 => 109 | 70 => 104 | 37 => 105 | 75 => 45 | 127 => 117 | 164 => 125 | 5 => 5 | 80 => 111 | n => n, fun | n => n⟩
theorem Tryd.lays156 : Go.Proofs.Lays.n156 Tryd.prog Tryd.lays156_ren := {
  mixed := by kernel_rfl
  f156 := Tryd.func31.trans (congrArg some (by kernel_rfl))
  f165 := Tryd.func49.trans (congrArg some (by kernel_rfl))
  f166 := Tryd.func50.trans (congrArg some (by kernel_rfl))
  f169 := Tryd.func51.trans (congrArg some (by kernel_rfl))
  f240 := Tryd.func57.trans (congrArg some (by kernel_rfl))
  f241 := Tryd.func58.trans (congrArg some (by kernel_rfl))
  f276 := Tryd.func60.trans (congrArg some (by kernel_rfl))
  f277 := Tryd.func61.trans (congrArg some (by kernel_rfl))
  t0 := Tryd.underlying0
  a0 := Tryd.isAgg0
  z0 := Tryd.sizeOf0
  v0 := Tryd.zeroValue0
  t3 := Tryd.underlying3
  a3 := Tryd.isAgg3
  z3 := Tryd.sizeOf3
  v3 := Tryd.zeroValue3
  t4 := Tryd.underlying4
  a4 := Tryd.isAgg4
  z4 := Tryd.sizeOf4
  v4 := Tryd.zeroValue4
  t9 := Tryd.underlying9
  a9 := Tryd.isAgg9
  z9 := Tryd.sizeOf9
  v9 := Tryd.zeroValue9
  t20 := Tryd.underlying20
  a20 := Tryd.isAgg20
  z20 := Tryd.sizeOf20
  v20 := Tryd.zeroValue20
  t31 := Tryd.underlying66
  a31 := Tryd.isAgg66
  z31 := Tryd.sizeOf66
  v31 := Tryd.zeroValue66
  t37 := Tryd.underlying105
  a37 := Tryd.isAgg105
  z37 := Tryd.sizeOf105
  v37 := Tryd.zeroValue105
  t70 := Tryd.underlying104
  a70 := Tryd.isAgg104
  z70 := Tryd.sizeOf104
  v70 := Tryd.zeroValue104
  t72 := Tryd.underlying107
  a72 := Tryd.isAgg107
  z72 := Tryd.sizeOf107
  v72 := Tryd.zeroValue107
  t75 := Tryd.underlying45
  a75 := Tryd.isAgg45
  z75 := Tryd.sizeOf45
  v75 := Tryd.zeroValue45
  t76 := Tryd.underlying109
  a76 := Tryd.isAgg109
  z76 := Tryd.sizeOf109
  v76 := Tryd.zeroValue109
  t127 := Tryd.underlying117
  a127 := Tryd.isAgg117
  z127 := Tryd.sizeOf117
  v127 := Tryd.zeroValue117
  t164 := Tryd.underlying125
  a164 := Tryd.isAgg125
  z164 := Tryd.sizeOf125
  v164 := Tryd.zeroValue125 }
theorem Tryd.Builder_Extra_156 : Builder.Extra Tryd.prog Tryd.lays156_ren := {
  sizeBuilder := by kernel_rfl
  liesBuilder := by kernel_rfl
  t5 := Tryd.underlying5
  a5 := Tryd.isAgg5
  z5 := Tryd.sizeOf5
  v5 := Tryd.zeroValue5
  infoByte := by kernel_rfl
  cellsByte := by kernel_rfl
  sizeByte := by kernel_rfl
  neB5 := by decide }
open Go.RowKit in
theorem Tryd.strings_Join_none (a : Option Addr) (c : Nat) (sep : ByteArray) (w : World) :
    Calls Tryd.prog 31 #[.slice a 0 c, .string sep] w fun e w' => e = .returned (.string ⟨#[]⟩) ∧ w' = w := Any.strings_Join_none Tryd.lays156 Tryd.Builder_Extra_156 a c sep w
open Go.RowKit in
theorem Tryd.strings_Join (bk o c : Nat) (xs : List ByteArray) (sep : ByteArray) (w : World) (hcells : ∀ (j : Nat) x, xs[j]? = some x → w.cell? ⟨bk, o + j, none⟩ = some (.string x)) (hbk : bk < w.heap.size) (hN : xs.length ≤ 140737488355328) (hcap : xs.length ≤ c) (hlen : (Lib.join (xs.map (·.data.toList)) sep.data.toList).length ≤ 140737488355328) :
    Calls Tryd.prog 31 #[.slice (some ⟨bk, o, none⟩) xs.length c, .string sep] w fun e w' => e = .returned (.string ⟨(Lib.join (xs.map (·.data.toList)) sep.data.toList).toArray⟩) ∧ Below w.heap.size w w' := Any.strings_Join Tryd.lays156 Tryd.Builder_Extra_156 bk o c xs sep w hcells hbk hN hcap hlen
end Go.Proofs
