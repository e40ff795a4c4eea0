/- Package lex: classes of bytes. A region that draws its order, walked once, in an order of one's own: what only reads is taken first ('true'), what changes the world comes when nothing else may ('false'); the last part ('ph') waits for all that stands ahead of it. General: rows, blocks, texts. General: a block that is changed. -/
import Derived.Test.YtgmnfgljkocnpaaGreatDoorProg
import Derived.WalkKit
import Derived.Lib.Hide
import Derived.OrdersHeld
import Derived.Tactics
import Derived.KernelRfl
import Derived.Laws.World
import Derived.Laws.AppendOwn
import Derived.Deep.AppendLies
namespace Go.Proofs.YtgmnfgljkocnpaaGreatDoor
open Go Go.RowKit
set_option maxRecDepth 100000
def Z0l (c : Int) : Bool := (decide (97 ≤ c) && decide (c ≤ 122)) || decide (c = 95)
def Z0h (c : Int) : Bool := decide (48 ≤ c) && decide (c ≤ 57)
def Z1a (c : Int) : Bool := decide (c = 32) || decide (c = 10)
def Z46 (c : Int) : Bool := Z0l c || Z0h c
theorem Z9e (w : World) (c : Int) : Calls Tryz.prog 60 #[.int .u8 c] w fun e w' => e = .returned (.bool (Z0l c)) ∧ w' = w := by
 by_cases h1 : 97 ≤ c
 ·by_cases h2 : c ≤ 122
  ·have e : Z0l c = true := by simp [Z0l, h1, h2]
   rw [e];go_enter Tryz.func60, Tryz.ntmps60
   go_wp2;go_ret;exact ⟨rfl, rfl⟩
  ·have e : Z0l c = false := by simp [Z0l, h1, h2]; omega
   have h3 : (c == 95) = false := by simp; omega
   rw [e];go_enter Tryz.func60, Tryz.ntmps60
   go_wp2;go_ret;exact ⟨rfl, rfl⟩
 ·by_cases h3 : c = 95
  ·subst h3;go_enter Tryz.func60, Tryz.ntmps60
   go_wp2;go_ret;exact ⟨rfl, rfl⟩
  ·have e : Z0l c = false := by simp [Z0l, h1, h3]
   have h3' : (c == 95) = false := by simp [h3]
   rw [e];go_enter Tryz.func60, Tryz.ntmps60
   go_wp2;go_ret;exact ⟨rfl, rfl⟩
theorem Z87 (w : World) (c : Int) : Calls Tryz.prog 62 #[.int .u8 c] w fun e w' => e = .returned (.bool (Z0h c)) ∧ w' = w := by
 by_cases h1 : 48 ≤ c
 ·by_cases h2 : c ≤ 57
  ·have e : Z0h c = true := by simp [Z0h, h1, h2]
   rw [e];go_enter Tryz.func62, Tryz.ntmps62
   go_wp2;go_ret;exact ⟨rfl, rfl⟩
  ·have e : Z0h c = false := by simp [Z0h, h2]
   rw [e];go_enter Tryz.func62, Tryz.ntmps62
   go_wp2;go_ret;exact ⟨rfl, rfl⟩
 ·have e : Z0h c = false := by simp [Z0h, h1]
  rw [e];go_enter Tryz.func62, Tryz.ntmps62
  go_wp2;go_ret;exact ⟨rfl, rfl⟩
theorem Zeu (w : World) (c : Int) : Calls Tryz.prog 59 #[.int .u8 c] w fun e w' => e = .returned (.bool (Z1a c)) ∧ w' = w := by
 by_cases h1 : c = 32
 ·subst h1;go_enter Tryz.func59, Tryz.ntmps59
  go_wp2;go_ret;exact ⟨rfl, rfl⟩
 ·have q1 : (c == 32) = false := by simp [h1]
  have e : Z1a c = (c == 10) := by simp [Z1a, h1]; rfl
  rw [e];go_enter Tryz.func59, Tryz.ntmps59
  go_wp2;go_ret;exact ⟨rfl, rfl⟩
theorem Zh3 (w : World) (c : Int) : Calls Tryz.prog 61 #[.int .u8 c] w fun e w' => e = .returned (.bool (Z46 c)) ∧ w' = w := by
 have HL := Lib.hid (Z9e w c);have HD := Lib.hid (Z87 w c);unfold Z46;cases hl : Z0l c
 ·rw [hl] at HL;go_enter Tryz.func61, Tryz.ntmps61
  go_wp2_with fail
  refine HL.out.mono ?_;rintro e w1 ⟨rfl, rfl⟩;go_wp2_with fail
  refine HD.out.mono ?_;rintro e w1 ⟨rfl, rfl⟩;go_wp2;go_ret;exact ⟨rfl, rfl⟩
 ·rw [hl] at HL;go_enter Tryz.func61, Tryz.ntmps61
  go_wp2_with fail
  refine HL.out.mono ?_;rintro e w1 ⟨rfl, rfl⟩;go_wp2;go_ret;exact ⟨rfl, rfl⟩
end Go.Proofs.YtgmnfgljkocnpaaGreatDoor
namespace Go.Proofs.YtgmnfgljkocnpaaGreatDoor
open Go
section
variable {P : Program} {ops : Array Oper} {md : Region.Mode}
def Ends (K : Act → World → Prop) (Q : Exit → Act → World → Prop) : Exit → Act → World → Prop
 | .normal, a, w => K a w
 | e, a, w => Q e a w
theorem Zj4 {Q Q' : Exit → Act → World → Prop} {o : Oper} {a : Act} {w : World} {K : Act → World → Prop}
 (hp : ∀ c a w, Q' (.panic c) a w → Q (.panic c) a w) (ho : LetsOut Q' → LetsOut Q) (h : o.wp P a w K Q') : o.wp P a w K Q := by
 unfold Oper.wp at *;generalize (execOp a.eval o).run P w = r at *;cases r with
 | ok n w' =>
   cases n <;> simp only [Oper.upon] at h ⊢ <;>
    first
     | exact h
     | exact Calls.mono h (fun e w'' he => by cases e <;> first | exact he | exact hp _ _ _ he | exact ho he)
 | halt x w' => cases x <;> simp only [Oper.upon] at h ⊢ <;> exact hp _ _ _ h
theorem Zfe {Q : Exit → Act → World → Prop} {R : Act → World → Prop} {i : Nat} {a : Act} {w : World} {K : Act → World → Prop}
 (h : wpOp P ops (Ends R Q) i K a w) : wpOp P ops Q i K a w := by
 unfold wpOp at *;split;·rename_i ho; simp only [ho] at h; exact h
 ·rename_i o ho;simp only [ho] at h;split
  ·rename_i hw;simp only [hw, if_true] at h;rcases h with h | ⟨h1, h2⟩;·exact .inl (Zj4 (fun _ _ _ h => h) (fun h => h) h)
   ·exact .inr ⟨h1, h2⟩
  ·rename_i hw; simp only [hw] at h; exact h
theorem Z9f {Q : Exit → Act → World → Prop} : ∀ (f : Nat) (listed : Array Bool) (a : Act) (w : World), wpAny P md ops Q f listed a w → wpAny P md ops Q (f + 1) listed a w
 | 0, listed, a, w, h => ⟨fun _ => h.2, by rw [h.1]; simp⟩
 | f + 1, listed, a, w, h => ⟨h.1, fun i hi => wpOp_mono (fun a' w' h' => Z9f f _ a' w' h') (h.2 i hi)⟩
theorem Zbp {Q : Exit → Act → World → Prop} {f g : Nat} (hfg : f ≤ g) {listed : Array Bool} {a : Act} {w : World} (h : wpAny P md ops Q f listed a w) : wpAny P md ops Q g listed a w := by
 obtain ⟨d, rfl⟩ := Nat.exists_eq_add_of_le hfg;induction d with
 | zero => exact h
 | succ d ih => exact Z9f _ _ _ _ (ih (by omega))
theorem Z5t (m j : Nat) : (Array.replicate m false).getD j false = false := by
 rcases Nat.lt_or_ge j m with h | h <;> simp [h]
def Z12 (l : List Nat) (m : Array Bool) : Array Bool := l.foldl (fun m i => m.setIfInBounds i true) m
theorem Z3v (l : List Nat) (m : Array Bool) : (Z12 l m).size = m.size := by
 unfold Z12;induction l generalizing m with
 | nil => rfl
 | cons i l ih => simp only [List.foldl_cons]; rw [ih]; simp
theorem Z3z {l : List Nat} {m : Array Bool} {j : Nat} (d : Bool) (h : j ∉ l) : (Z12 l m).getD j d = m.getD j d := by
 unfold Z12;induction l generalizing m with
 | nil => rfl
 | cons i l ih =>
   simp only [List.mem_cons, not_or] at h;simp only [List.foldl_cons];rw [ih h.2, getD_set_ne d (Ne.symm h.1)]
theorem Z3h {l : List Nat} {m : Array Bool} {j : Nat} (h : m.getD j false = true) : (Z12 l m).getD j false = true := by
 unfold Z12;induction l generalizing m with
 | nil => exact h
 | cons i l ih => simp only [List.foldl_cons]; exact ih (getD_set_true h)
theorem Z4n {l : List Nat} {m : Array Bool} {j : Nat} (h : j ∈ l) (hj : j < m.size) : (Z12 l m).getD j false = true := by
 unfold Z12;induction l generalizing m with
 | nil => cases h
 | cons i l ih =>
   simp only [List.foldl_cons];rcases List.mem_cons.1 h with rfl | h;·exact Z3h (l := l) (by simp [hj])
   ·exact ih h (by simpa using hj)
theorem Z72 (m : Array Bool) (i j : Nat) : (m.setIfInBounds i true).setIfInBounds j true = (m.setIfInBounds j true).setIfInBounds i true := by
 by_cases h : i = j;·subst h; rfl
 ·exact Array.setIfInBounds_comm _ _ h
theorem Zce (l : List Nat) (m : Array Bool) (i : Nat) : Z12 l (m.setIfInBounds i true) = (Z12 l m).setIfInBounds i true := by
 unfold Z12;induction l generalizing m with
 | nil => rfl
 | cons j l ih => simp only [List.foldl_cons]; rw [Z72, ih]
def Closed (md : Region.Mode) (ops : Array Oper) (m : Array Bool) : Prop :=
 ∀ j o, ops[j]? = some o → m.getD j false = true → ∀ e ∈ o.after, Region.binds md e = true → m.getD e.on false = true
theorem Closed.set {m : Array Bool} (h : Closed md ops m) {i : Nat} (hi : i ∈ Region.ready md ops m) : Closed md ops (m.setIfInBounds i true) := by
 obtain ⟨_, oi, hoi, hall⟩ := mem_ready.1 hi;intro j o hj hl e he hb;by_cases hij : i = j
 ·subst hij;have : o = oi := Option.some.inj (hj.symm.trans hoi);subst this;exact getD_set_true (hall e he hb)
 ·rw [getD_set_ne false hij] at hl;exact getD_set_true (h j o hj hl e he hb)
def Z55 (md : Region.Mode) (ops : Array Oper) (m : Array Bool) (j : Nat) : Array Bool :=
 match ops[j]? with
 | some o => o.after.toList.foldl (fun m e => if Region.binds md e then m.setIfInBounds e.on true else m) m
 | none => m
def Ziv (md : Region.Mode) (ops : Array Oper) (t : Nat) : Array Bool :=
 (List.range t).reverse.foldl (fun m j => if m.getD j false then Z55 md ops m j else m) (Z55 md ops (Array.replicate ops.size false) t)
theorem Z70 {m listed : Array Bool} (hm : ∀ k, m.getD k false = true → listed.getD k false = true) {j : Nat}
 (hj : ∀ o, ops[j]? = some o → ∀ e ∈ o.after, Region.binds md e = true → listed.getD e.on false = true) : ∀ k, (Z55 md ops m j).getD k false = true → listed.getD k false = true := by
 unfold Z55;cases ho : ops[j]? with
 | none => exact hm
 | some o =>
   simp only;have hall := hj o ho
   have : ∀ (l : List Edge), (∀ e ∈ l, Region.binds md e = true → listed.getD e.on false = true) → ∀ m : Array Bool, (∀ k, m.getD k false = true → listed.getD k false = true) →
    ∀ k, (l.foldl (fun m e => if Region.binds md e then m.setIfInBounds e.on true else m) m).getD k false = true → listed.getD k false = true := by
    intro l;induction l with
    | nil => intro _ m hm; exact hm
    | cons e l ih =>
      intro he m hm;simp only [List.foldl_cons];refine ih (fun e' h' => he e' (List.mem_cons_of_mem _ h')) _ fun k hk => ?_;by_cases hb : Region.binds md e = true
      ·rw [if_pos hb] at hk;by_cases hke : e.on = k;·subst hke; exact he e (List.mem_cons_self ..) hb
       ·rw [getD_set_ne false hke] at hk; exact hm k hk
      ·rw [if_neg hb] at hk; exact hm k hk
   exact this o.after.toList (fun e he => hall e (Array.mem_toList_iff.1 he)) m hm
theorem Zfh {listed : Array Bool} (hc : Closed md ops listed) {t : Nat} (ht : ∀ o, ops[t]? = some o → ∀ e ∈ o.after, Region.binds md e = true → listed.getD e.on false = true) :
 ∀ k, (Ziv md ops t).getD k false = true → listed.getD k false = true := by
 unfold Ziv;have h0 : ∀ k, (Z55 md ops (Array.replicate ops.size false) t).getD k false = true → listed.getD k false = true :=
  Z70 (fun k hk => by
   rcases Nat.lt_or_ge k ops.size with h | h;·simp [h] at hk
   ·simp [h] at hk) ht
 have : ∀ (l : List Nat) (m : Array Bool), (∀ k, m.getD k false = true → listed.getD k false = true) →
  ∀ k, (l.foldl (fun m j => if m.getD j false then Z55 md ops m j else m) m).getD k false = true → listed.getD k false = true := by
  intro l;induction l with
  | nil => intro m hm; exact hm
  | cons j l ih =>
    intro m hm;simp only [List.foldl_cons];refine ih _ ?_;by_cases hj : m.getD j false = true
    ·rw [if_pos hj];exact Z70 hm (fun o ho e he hb => hc j o ho (hm j hj) e he hb)
    ·rw [if_neg hj]; exact hm
 exact this _ _ h0
def waits (md : Region.Mode) (ops : Array Oper) (j i : Nat) : Bool :=
 match ops[j]? with
 | some o => o.after.any fun e => Region.binds md e && e.on == i
 | none => false
def Zgk (md : Region.Mode) (ops : Array Oper) : Bool :=
 (List.range ops.size).all fun j => match ops[j]? with | some o => o.after.all fun e => !Region.binds md e || decide (e.on < j) | none => true
def Za1 (md : Region.Mode) (ops : Array Oper) : Nat → List Nat → Bool
 | _, [] => true
 | t, u :: r => waits md ops u t && Za1 md ops u r
def Z42 (md : Region.Mode) (ops : Array Oper) : List Nat → Bool
 | [] => false
 | t :: r => Zgk md ops && ((t :: r).all fun j => decide (j < ops.size)) && ((List.range ops.size).all fun j => (t :: r).contains j || (Ziv md ops t).getD j false) && Za1 md ops t r
def Zbo (md : Region.Mode) (ops : Array Oper) : List Nat → Array Bool → Bool
 | [], listed => (Region.ready md ops listed).isEmpty
 | t :: r, listed => decide (Region.ready md ops listed = [t]) && Zbo md ops r (listed.setIfInBounds t true)
theorem Zbb {t : Nat} : ∀ {r : List Nat}, Za1 md ops t r = true → ∀ u ∈ r, ∃ s ∈ t :: r, waits md ops u s = true := by
 intro r;induction r generalizing t with
 | nil => intro _ u hu; cases hu
 | cons v r ih =>
   intro h u hu;simp only [Za1, Bool.and_eq_true] at h;rcases List.mem_cons.1 hu with rfl | hu;·exact ⟨t, List.mem_cons_self .., h.1⟩
   ·obtain ⟨s, hs, hw⟩ := ih h.2 u hu;exact ⟨s, List.mem_cons_of_mem _ hs, hw⟩
theorem Z7d {j i : Nat} (h : waits md ops j i = true) {m : Array Bool} (hj : j ∈ Region.ready md ops m) : m.getD i false = true := by
 obtain ⟨_, o, ho, hall⟩ := mem_ready.1 hj;unfold waits at h;rw [ho] at h;obtain ⟨e, he, hb⟩ := Array.any_eq_true'.1 h;simp only [Bool.and_eq_true, beq_iff_eq] at hb;rw [← hb.2];exact hall e he hb.1
theorem Zgi {ph : List Nat} (hB : Z42 md ops ph = true) {m : Array Bool} (hc : Closed md ops m) (hun : ∀ t ∈ ph, m.getD t false = false)
 {j : Nat} (hj : j < ops.size) (hjp : j ∉ ph) (hju : m.getD j false = false) : ∀ t ∈ ph, t ∉ Region.ready md ops m := by
 cases ph with
 | nil => simp [Z42] at hB
 | cons t r =>
   simp only [Z42, Bool.and_eq_true] at hB;obtain ⟨⟨⟨_, _⟩, hd⟩, hch⟩ := hB;intro u hu hr;rcases List.mem_cons.1 hu with rfl | hu'
   ·obtain ⟨_, o, ho, hall⟩ := mem_ready.1 hr;have h1 := List.all_eq_true.1 hd j (List.mem_range.2 hj);simp only [Bool.or_eq_true, List.contains_eq_mem, decide_eq_true_eq] at h1;have h2 := h1.resolve_left hjp;have := Zfh hc (t := u) (fun o' ho' e he hb => by
     have : o' = o := Option.some.inj (ho'.symm.trans ho);subst this;exact hall e he hb) j h2
    rw [hju] at this;cases this
   ·obtain ⟨s, hs, hw⟩ := Zbb hch u hu';have h3 := Z7d hw hr;rw [hun s hs] at h3;cases h3
theorem Z9z {m : Array Bool} {j : Nat} (h : j < m.size) : m.getD j true = m.getD j false := by simp [h]
theorem Z7p (hB : Zgk md ops = true) {m : Array Bool} (hs : m.size = ops.size) : ∀ j, j < ops.size → m.getD j false = false → Region.ready md ops m ≠ [] := by
 intro j;induction j using Nat.strongRecOn with
 | _ j ih =>
   intro hj hju;have ho : ops[j]? = some ops[j] := Array.getElem?_eq_getElem hj;have h1 := List.all_eq_true.1 hB j (List.mem_range.2 hj);rw [ho] at h1;simp only [Array.all_eq_true_iff_forall_mem, Bool.or_eq_true, Bool.not_eq_true', decide_eq_true_eq] at h1;by_cases hall : ∀ e ∈ ops[j].after, Region.binds md e = true → m.getD e.on false = true
   ·intro h0;have : j ∈ Region.ready md ops m := mem_ready.2 ⟨by rw [Z9z (by omega)]; exact hju, _, ho, hall⟩;rw [h0] at this;cases this
   ·simp only [Classical.not_forall] at hall;obtain ⟨e, he, hb, hn⟩ := hall;have hlt : e.on < j := (h1 e he).resolve_left (by simp [hb]);exact ih e.on hlt (by omega) (by simpa using hn)
theorem Z6p {Q : Exit → Act → World → Prop} : ∀ (l : List Nat) (listed : Array Bool) (a : Act) (w : World), Zbo md ops l listed = true →
 wpList P ops Q (l.filterMap (ops[·]?)) a w → wpAny P md ops Q l.length listed a w
 | [], listed, a, w, hB, h => ⟨by simpa [Zbo] using hB, h⟩
 | t :: l, listed, a, w, hB, h => by
   simp only [Zbo, Bool.and_eq_true, decide_eq_true_eq] at hB;refine ⟨fun h1 => (by rw [hB.1] at h1; cases h1), fun i hi => ?_⟩;have hi' := hi;rw [hB.1] at hi;have hit : i = t := by simpa using hi
   subst hit;obtain ⟨_, o, ho, _⟩ := mem_ready.1 hi';rw [List.filterMap_cons, ho] at h;simp only [wpList] at h;have hw : wpOp P ops Q i (wpList P ops Q (l.filterMap (ops[·]?))) a w := by unfold wpOp; simp only [ho]; exact h
   exact wpOp_mono (fun a' w' h' => Z6p l _ a' w' hB.2 h') hw
theorem Z85 {Q : Exit → Act → World → Prop} {ph : List Nat} (hB : Z42 md ops ph = true) (hseq : ∀ m : Array Bool, m.size = ops.size → (∀ j, j < ops.size → m.getD j false = !ph.contains j) → Zbo md ops ph m = true) :
 ∀ (f : Nat) (listed : Array Bool) (a : Act) (w : World), listed.size = ops.size → Closed md ops listed → (∀ t ∈ ph, listed.getD t false = false) →
   wpAny P md ops (Ends (wpList P ops Q (ph.filterMap (ops[·]?))) Q) f (Z12 ph listed) a w → wpAny P md ops Q (f + ph.length) listed a w := by
 have hback : Zgk md ops = true := by
  cases ph with
  | nil => simp [Z42] at hB
  | cons t r => simp only [Z42, Bool.and_eq_true] at hB; exact hB.1.1.1
 have hin : ∀ t ∈ ph, t < ops.size := by
  cases ph with
  | nil => simp [Z42] at hB
  | cons t r =>
    simp only [Z42, Bool.and_eq_true] at hB;intro u hu;simpa using List.all_eq_true.1 hB.1.1.2 u hu
 have fin : ∀ (g : Nat) (listed : Array Bool) (a : Act) (w : World), listed.size = ops.size → (∀ t ∈ ph, listed.getD t false = false) → (∀ j, j < ops.size → j ∉ ph → listed.getD j false = true) →
  wpList P ops Q (ph.filterMap (ops[·]?)) a w → wpAny P md ops Q (g + ph.length) listed a w := by
  intro g listed a w hs hun hall h;refine Zbp (Nat.le_add_left _ _) (Z6p ph listed a w (hseq listed hs fun j hj => ?_) h);by_cases hjp : j ∈ ph;·rw [hun j hjp]; simp [hjp]
  ·rw [hall j hj hjp]; simp [hjp]
 have done : ∀ (listed : Array Bool), listed.size = ops.size → Region.ready md ops (Z12 ph listed) = [] → ∀ j, j < ops.size → j ∉ ph → listed.getD j false = true := by
  intro listed hs hr j hj hjp;cases h : listed.getD j false with
  | true => rfl
  | false => exact absurd hr (Z7p hback (by rw [Z3v]; exact hs) j hj (by rw [Z3z false hjp]; exact h))
 intro f;induction f with
 | zero =>
   intro listed a w hs hc hun h;exact fin 0 listed a w hs hun (done listed hs h.1) h.2
 | succ f ih =>
   intro listed a w hs hc hun h;by_cases hall : ∀ j, j < ops.size → j ∉ ph → listed.getD j false = true
   ·refine fin (f + 1) listed a w hs hun hall (h.1 ?_);refine List.eq_nil_iff_forall_not_mem.2 fun i hi => ?_;obtain ⟨h0, o, ho, _⟩ := mem_ready.1 hi;have hil : i < ops.size := (Array.getElem?_eq_some_iff.1 ho).1;rw [Z9z (by rw [Z3v]; omega)] at h0;by_cases hip : i ∈ ph;·rw [Z4n hip (by omega)] at h0; cases h0
    ·rw [Z3z false hip, hall i hil hip] at h0; cases h0
   ·simp only [Classical.not_forall] at hall;obtain ⟨j, hj, hjp, hju⟩ := hall;have hju' : listed.getD j false = false := by simpa using hju
    have hnr := Zgi hB hc hun hj hjp hju';rw [show f + 1 + ph.length = (f + ph.length) + 1 by omega];refine ⟨fun h0 => absurd h0 (Z7p hback hs j hj hju'), fun i hi => ?_⟩;have hip : i ∉ ph := fun hp => hnr i hp hi;obtain ⟨h0, o, ho, hae⟩ := mem_ready.1 hi;have hi' : i ∈ Region.ready md ops (Z12 ph listed) := mem_ready.2 ⟨by rw [Z3z true hip]; exact h0, o, ho, fun e he hb => Z3h (hae e he hb)⟩;refine wpOp_mono (fun a' w' h' => ?_) (Zfe (h.2 i hi'));refine ih _ a' w' (by simpa using hs) (hc.set hi) (fun t ht => ?_) (by rw [Zce]; exact h');rw [getD_set_ne false (by rintro rfl; exact hip ht)]
    exact hun t ht
def Z44 (P : Program) (ops : Array Oper) (Q : Exit → Act → World → Prop) (S : World → Prop) : List (Bool × Oper) → Act → World → Prop
 | [], a, w => Q .normal a w
 | (true, o) :: r, a, w => ∃ v, YieldsIf P ops S o v a ∧ Z44 P ops Q S r (a.put o.dst v) w
 | (false, o) :: r, a, w => if Region.wanted o (yielded ops a.tmps) = true then o.wp P a w (fun a' w' => S w' ∧ Z44 P ops Q S r a' w') Q else Z44 P ops Q S r (a.put o.dst undef) w
def Zck (md : Region.Mode) (ops : Array Oper) : List (Bool × Nat) → Array Bool → Bool
 | [], listed => (Region.ready md ops listed).isEmpty
 | (true, i) :: r, listed => (Region.ready md ops listed).contains i && Region.free md ops listed i && Zck md ops r (listed.setIfInBounds i true)
 | (false, i) :: r, listed => decide (Region.ready md ops listed = [i]) && Zck md ops r (listed.setIfInBounds i true)
def Za (ops : Array Oper) (l : List (Bool × Nat)) : List (Bool × Oper) := l.filterMap fun x => (ops[x.2]?).map fun o => (x.1, o)
theorem Z4p {Q : Exit → Act → World → Prop} {S : World → Prop} (hsel : Region.noSelect ops = true) (hQ : ∀ c a d v w, Q (.panic c) (Act.put a d v) w → Q (.panic c) a w) :
 ∀ (l : List (Bool × Nat)) (listed : Array Bool) (a : Act) (w : World), Zck md ops l listed = true → S w → Z44 P ops Q S (Za ops l) a w → wpAnyH P md ops Q S l.length listed a w
 | [], listed, a, w, hB, _, h => ⟨by simpa [Zck] using hB, h⟩
 | (true, i) :: l, listed, a, w, hB, hS, h => by
   simp only [Zck, Bool.and_eq_true] at hB;obtain ⟨⟨hr, hf⟩, hB'⟩ := hB;obtain ⟨_, o, ho, _⟩ := mem_ready.1 (show i ∈ Region.ready md ops listed by simpa using hr);have e : Za ops ((true, i) :: l) = (true, o) :: Za ops l := by simp [Za, ho]
   rw [e] at h;obtain ⟨v, hy, h'⟩ := h;exact wpAnyH_take ho hsel hf hr (fun c a w => hQ c a _ _ w) hy hS (Z4p hsel hQ l _ _ w hB' hS h')
 | (false, i) :: l, listed, a, w, hB, hS, h => by
   simp only [Zck, Bool.and_eq_true, decide_eq_true_eq] at hB;obtain ⟨hr, hB'⟩ := hB;obtain ⟨_, o, ho, _⟩ := mem_ready.1 (show i ∈ Region.ready md ops listed by rw [hr]; simp);have e : Za ops ((false, i) :: l) = (false, o) :: Za ops l := by simp [Za, ho]
   rw [e] at h;refine wpAnyH_all hr (by simp) fun k hk => ?_;have hki : k = i := by simpa using hk
   subst hki;unfold wpOp;simp only [ho];unfold Z44 at h;split at h
   ·rename_i hw;rw [if_pos hw];exact .inl (Oper.wp_mono (fun a' w' h' => ⟨h'.1, Z4p hsel hQ l _ a' w' hB' h'.1 h'.2⟩) h)
   ·rename_i hw;rw [if_neg hw];exact ⟨hS, Z4p hsel hQ l _ _ w hB' hS h⟩
theorem Z2 {Q : Exit → Act → World → Prop} {S : World → Prop} {o : Oper} {r : List (Bool × Oper)} {a : Act} {w : World} (v : Value)
 (hw : Region.wanted o (yielded ops a.tmps) = true) (hy : ∀ w', S w' → (execOp a.eval o).run P w' = .ok (.value v) w') (h : Z44 P ops Q S r (a.put o.dst v) w) : Z44 P ops Q S ((true, o) :: r) a w :=
 ⟨v, .inl ⟨hw, hy⟩, h⟩
theorem Z1 {Q : Exit → Act → World → Prop} {S : World → Prop} {o : Oper} {r : List (Bool × Oper)} {a : Act} {w : World}
 (hw : Region.wanted o (yielded ops a.tmps) = false) (h : Z44 P ops Q S r (a.put o.dst undef) w) : Z44 P ops Q S ((true, o) :: r) a w :=
 ⟨undef, .inr ⟨hw, rfl⟩, h⟩
theorem Z6 {Q : Exit → Act → World → Prop} {S : World → Prop} {o : Oper} {r : List (Bool × Oper)} {a : Act} {w : World}
 (h : ∀ K : Act → World → Prop, (∀ a' w', S w' → Z44 P ops Q S r a' w' → K a' w') → if Region.wanted o (yielded ops a.tmps) = true then o.wp P a w K Q else K (a.put o.dst undef) w) :
 Z44 P ops Q S ((false, o) :: r) a w := by
 unfold Z44;by_cases hw : Region.wanted o (yielded ops a.tmps) = true
 ·rw [if_pos hw];have := h (fun a' w' => S w' ∧ Z44 P ops Q S r a' w') (fun _ _ h1 h2 => ⟨h1, h2⟩);rwa [if_pos hw] at this
 ·rw [if_neg hw];have := h (fun a' w' => S w' ∧ Z44 P ops Q S r a' w') (fun _ _ h1 h2 => ⟨h1, h2⟩);rw [if_neg hw] at this;exact this.2
theorem Z5 {Q : Exit → Act → World → Prop} {S : World → Prop} {a : Act} {w : World} {l : List Oper} (h : wpList P ops Q l a w) : Z44 P ops (Ends (wpList P ops Q l) Q) S [] a w := h
def allB (md : Region.Mode) (ops : Array Oper) (plan : List (Bool × Nat)) (ph : List Nat) : Bool :=
 Region.noSelect ops && Z42 md ops ph && Zbo md ops ph (((List.range ops.size).map fun j => !ph.contains j).toArray) && Zck md ops plan (Z12 ph (Array.replicate ops.size false)) && decide (plan.length + ph.length = ops.size)
theorem Z0 {Q : Exit → Act → World → Prop} {id : Nat} {l : List Oper} {a : Act} {w : World} (plan : List (Bool × Nat)) (ph : List Nat) (S : World → Prop) (hm : P.follows .mixedOrders = true)
 (hB : allB .any l.toArray plan ph = true) (hQ : ∀ c a d v w, Q (.panic c) (Act.put a d v) w → Q (.panic c) a w) (hS : S w.drew)
 (h : S w.drew → Z44 P l.toArray (Ends (wpList P l.toArray Q (ph.filterMap (l.toArray[·]?))) Q) S (Za l.toArray plan) a w.drew) : (Code.region id l.toArray true).wp P Q a w := by
 simp only [allB, Bool.and_eq_true, decide_eq_true_eq] at hB;obtain ⟨⟨⟨⟨hsel, hph⟩, hseq⟩, hplan⟩, hlen⟩ := hB;refine wp_region_any hm ?_;have hin : ∀ t ∈ ph, t < l.toArray.size := by
  cases ph with
  | nil => simp [Z42] at hph
  | cons t r =>
    simp only [Z42, Bool.and_eq_true] at hph;intro u hu;simpa using List.all_eq_true.1 hph.1.1.2 u hu
 have H := Z4p (P := P) (md := .any) (Q := Ends (wpList P l.toArray Q (ph.filterMap (l.toArray[·]?))) Q) hsel hQ plan _ a w.drew hplan hS (h hS);have key := Z85 (Q := Q) hph (fun m hs hm' => ?_) plan.length (Array.replicate l.toArray.size false) a w.drew (by simp) ?_ ?_ (wpAny_of_held _ _ _ _ H);·rw [hlen] at key; exact key
 ·have : m = ((List.range l.toArray.size).map fun j => !ph.contains j).toArray := by
   apply Array.ext;·simp only [hs, List.size_toArray, List.length_map, List.length_range]
   ·intro j h1 h2;have := hm' j (by omega);simp only [List.getElem_toArray, List.getElem_map, List.getElem_range];rw [← this];simp [h1]
  rw [this]; exact hseq
 ·intro j o _ hl;rw [Z5t] at hl;cases hl
 ·intro t _;exact Z5t _ _
end
end Go.Proofs.YtgmnfgljkocnpaaGreatDoor
namespace Go.Proofs.YtgmnfgljkocnpaaGreatDoor
open Go Go.RowKit
set_option maxRecDepth 100000
def Z0o (a b : ByteArray) : Bool := decide (a = b)
theorem Z34 {a b : ByteArray} : Z0o a b = true ↔ a = b := by simp [Z0o]
theorem Z25 {a b : ByteArray} (h : a.toList = b.toList) : a = b := by
 obtain ⟨⟨a⟩⟩ := a; obtain ⟨⟨b⟩⟩ := b;simpa [ByteArray.toList_eq] using h
theorem Z4c (a b : ByteArray) : (a.toList == b.toList) = Z0o a b := by
 unfold Z0o;by_cases h : a = b;·simp [h]
 ·simp only [h, decide_false, beq_eq_false_iff_ne, ne_eq];exact fun e => h (Z25 e)
theorem getElem?_flatMap {α β : Type} (f : α → List β) (m : Nat) (hf : ∀ a, (f a).length = m) (l : List α) (i j : Nat) (hj : j < m) :
 (l.flatMap f)[i * m + j]? = (l[i]?).bind fun a => (f a)[j]? := by
 induction l generalizing i with
 | nil => simp
 | cons a l ih =>
   rw [List.flatMap_cons];cases i with
   | zero => rw [List.getElem?_append_left (by rw [hf]; omega)]; simp
   | succ i =>
     rw [List.getElem?_append_right (by rw [hf, Nat.succ_mul]; omega), hf, show (i + 1) * m + j - m = i * m + j by rw [Nat.succ_mul]; omega, ih];simp
theorem Zcy {w : World} {base : Nat} {e : TypeId} {m : Nat} {v : Value} {n : Nat} {α : Type} {f : α → List Value} {l : List α} (hf : ∀ a, (f a).length = m)
 (h : w.ownsRow base e m v n (l.flatMap f)) {g : Nat} (hg : v.ownBlock = some g) {i j : Nat} {a : α} {x : Value} (hi : l[i]? = some a) (hj : (f a)[j]? = some x) :
 w.cell? ⟨g, i * m + j, none⟩ = some x := by
 have hjm : j < m := by rw [← hf a]; exact (List.getElem?_eq_some_iff.1 hj).1
 have := h.cells hg (i * m + j) x (by rw [getElem?_flatMap f m hf l i j hjm, hi]; exact hj);rwa [show ((⟨g, 0, none⟩ : Addr).add (i * m + j)) = ⟨g, i * m + j, none⟩ by unfold Addr.add; split <;> simp_all] at this
theorem Zl {w w' : World} {base : Nat} {e : TypeId} {m : Nat} {v : Value} {n : Nat} {xs : List Value} (h : w.ownsRow base e m v n xs)
 (hb : ∀ g, v.ownBlock = some g → w'.heap[g]? = w.heap[g]?) : w'.ownsRow base e m v n xs := by
 refine ⟨h.1, ?_⟩;rcases h.2 with hn | ⟨g, cap, cur, rfl, hbg, hgg, rest⟩;·exact .inl hn
 ·exact .inr ⟨g, cap, cur, rfl, hbg, by rw [hb g rfl]; exact hgg, rest⟩
theorem Zc {w : World} {base : Nat} {e : TypeId} {m : Nat} {v : Value} {n : Nat} {xs : List Value} (h : w.ownsRow base e m v n xs) :
 (v = .slice none 0 0 ∧ n = 0) ∨ ∃ g cap, v = .slice (some ⟨g, 0, none⟩) n cap ∧ n ≤ cap ∧ cap ≤ maxLen ∧ g < w.heap.size := by
 rcases h.2 with hn | ⟨g, cap, cur, rfl, _, hgg, h1, h2, _⟩;·exact .inl hn
 ·exact .inr ⟨g, cap, rfl, h1, h2, (Array.getElem?_eq_some_iff.1 hgg).1⟩
theorem Z82 {a b : Bool} (h : a = b) : Ending.returned (.bool a) = .returned (.bool b) := by rw [h]
theorem Z7 {w : World} {o : Obj} {p : Addr} (h : p.block < w.heap.size) : (w.alloc o).cell? p = w.cell? p := ((Below.refl w.heap.size w).alloc (Nat.le_refl _) o).cell h
theorem Zu {w : World} {o : Obj} {p : Addr} (h : p.block < w.heap.size) : (w.alloc o).frozen? p = w.frozen? p := ((Below.refl w.heap.size w).alloc (Nat.le_refl _) o).frozen h
theorem Zn {w : World} {b o : Nat} {c : Array Value} {T : TypeId} {mk : Nat × Nat} (v : Value) (h : w.heap[b]? = some (.cells c T mk)) :
 (w.setCell ⟨b, o, none⟩ v).heap[b]? = some (.cells (c.setIfInBounds o v) T mk) := by
 simp [World.setCell, Array.getElem?_modify, h]
theorem lh {p : Prop} (h : p) : Hid p := Lib.hid h
theorem zA {α : Type _} (l : List α) (i : Nat) (v : α) : l.toArray.setIfInBounds i v = (l.set i v).toArray := List.setIfInBounds_toArray ..
theorem zB {α : Type _} (x v : α) (l : List α) : (x :: l).set 0 v = v :: l := rfl
theorem zC {α : Type _} (x v : α) (l : List α) (n : Nat) : (x :: l).set (n + 1) v = x :: l.set n v := rfl
end Go.Proofs.YtgmnfgljkocnpaaGreatDoor
