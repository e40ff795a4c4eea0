/- Package tree: binary. A region that draws its order and holds operations that come up in many orders: what has come up tells what holds. -/
import Derived.Test.YtgifgiipojedbaaGreatDoorJ21
import Derived.WalkMore
import Derived.ScopeJumps
import Derived.Test.YtgifgiipojedbaaGreatDoorJ02
namespace Go.Proofs.YtgifgiipojedbaaGreatDoor
open Go Go.RowKit
set_option maxRecDepth 100000
set_option linter.unusedVariables false

/-- the arguments of 'binary' -/
def bArg (lv : Nat) (rb : Nat) : Array Value := #[.pointer (some ⟨rb, 0, none⟩), .int .i64 lv]
theorem level_none {lv : Nat} {ts : List Tok} (h : ∀ (i : Nat) (x : ByteArray), (levL lv)[i]? = some x → isT x ts = false) : levelT lv ts = 0 := by
  match lv with
  | 0 => have h0 := h 0 s_or rfl; simp [levelT, h0]
  | 1 => have h0 := h 0 s_and rfl; simp [levelT, h0]
  | 2 => have h0 := h 0 s_same rfl; simp [levelT, h0]
  | 3 => have h0 := h 0 s_less rfl; simp [levelT, h0]
  | 4 => have h0 := h 0 s_add rfl; have h1 := h 1 s_sub rfl; simp [levelT, h0, h1]
  | 5 => have h0 := h 0 s_mul rfl; simp [levelT, h0]
  | n + 6 => rfl
theorem level_some {lv : Nat} {ts : List Tok} {k : Nat} {x : ByteArray} (hk : (levL lv)[k]? = some x) (hx : isT x ts = true) (h : ∀ (i : Nat) (y : ByteArray), i < k → (levL lv)[i]? = some y → isT y ts = false) : levelT lv ts = signK x ∧ signK x ≠ 0 := by
  match lv with
  | 0 =>
    match k with
    | 0 => obtain rfl : s_or = x := by simpa [levL] using hk
           exact ⟨by simp [levelT, hx]; decide, by decide⟩
    | k + 1 => simp [levL] at hk
  | 1 =>
    match k with
    | 0 => obtain rfl : s_and = x := by simpa [levL] using hk
           exact ⟨by simp [levelT, hx]; decide, by decide⟩
    | k + 1 => simp [levL] at hk
  | 2 =>
    match k with
    | 0 => obtain rfl : s_same = x := by simpa [levL] using hk
           exact ⟨by simp [levelT, hx]; decide, by decide⟩
    | k + 1 => simp [levL] at hk
  | 3 =>
    match k with
    | 0 => obtain rfl : s_less = x := by simpa [levL] using hk
           exact ⟨by simp [levelT, hx]; decide, by decide⟩
    | k + 1 => simp [levL] at hk
  | 4 =>
    match k with
    | 0 => obtain rfl : s_add = x := by simpa [levL] using hk
           exact ⟨by simp [levelT, hx]; decide, by decide⟩
    | 1 => obtain rfl : s_sub = x := by simpa [levL] using hk
           have h0 := h 0 s_add (by omega) rfl
           exact ⟨by simp [levelT, hx, h0]; decide, by decide⟩
    | k + 2 => simp [levL] at hk
  | 5 =>
    match k with
    | 0 => obtain rfl : s_mul = x := by simpa [levL] using hk
           exact ⟨by simp [levelT, hx]; decide, by decide⟩
    | k + 1 => simp [levL] at hk
  | n + 6 => simp [levL] at hk

set_option maxHeartbeats 8000000 in
theorem bin6_says (f : Nat) (hU : Says 203 rArg .unary f) : Says 192 (bArg 6) (.bin 6) (f + 1) := by
  intro w rb B d ts r hP hp
  have hw : parseF f .unary d ts = some r := hp
  have HC := Lib.hid (hU w rb B d ts r hP hw)
  clear hP hp hw hU
  unfold rArg at HC
  unfold bArg
  go_enter Tryz.func192, Tryz.ntmps192
  go_wp2
  go_step3
  go_wp2_with fail
  refine HC.out.mono ?_
  rcases r with ⟨c, p⟩ | ⟨t, ts'⟩
  · rintro e w2 ⟨⟨b, rfl, h1, h2⟩, hF⟩
    exact ⟨rfl, ⟨b, rfl, h1, h2⟩, hF⟩
  · rintro e w2 ⟨a, rfl, hG, hR, hF⟩
    have HG := Lib.hid hG
    have HR := Lib.hid hR
    have HF := Lib.hid hF
    clear hG hR hF HC
    go_wp2
    try rw [Exit.noGoto_ret]
    go_ret
    exact ⟨a, rfl, HG.out, HR.out, HF.out⟩

theorem wp_scope_pass {P : Program} {a : Act} {w : World} {Q : Exit → Act → World → Prop} {c rest : Code} (l : Nat) (J : Act → World → Prop) (μ : Act → World → Nat) (hf : findLabel c l = some (Code.skip.seq rest))
    (first : (∀ a w, J a w → rest.wp P (Exit.jump l J Q) a w) → c.wp P (Exit.jump l J Q) a w)
    (pass : ∀ a w, J a w → rest.wp P (Exit.jump l (fun a' w' => J a' w' ∧ μ a' w' < μ a w) Q) a w) : (Code.scope c).wp P Q a w :=
  wp_scope_jumps l J μ hf (first fun a w h => Code.wp_mono (fun e a' w' hq => by cases e <;> first | exact hq | exact ⟨hq.1, hq.2.1⟩) (pass a w h)) fun a w h => wp_seq (wp_skip (pass a w h))
def BinJ (f lv d : Nat) (w : World) (rb B : Nat) (r : Except (Int × Nat) (Tree × List Tok)) (n : Nat) (a : ATree) (w' : World) : Prop :=
  ∃ (g : Nat) (us : List Tok) (t : Tree), g ≤ f ∧ parseF g (.binLoop lv t) d us = some r ∧ Got w B w' a t ∧ Pre w' rb B d us ∧ RFr w w' rb ∧ us.length ≤ n
set_option maxHeartbeats 800000 in
theorem bin_says (f lv : Nat) (hlv : lv < 6) (hB : ∀ g, g ≤ f → Says 192 (bArg (lv + 1)) (.bin (lv + 1)) g) : Says 192 (bArg lv) (.bin lv) (f + 1) := by
  intro w rb B d ts r hP hp
  have hw : bindT (parseF f (.bin (lv + 1)) d ts) (fun x ts => parseF f (.binLoop lv x) d ts) = some r := by rw [← hp, parseF, if_neg (by omega)]
  have HP := Lib.hid hP
  have HB := Lib.hid hB
  have H1 := Lib.hid hw
  have l6 : ((lv : Int) == 6) = false := by simp; omega
  have l0 : 0 ≤ (lv : Int) := by omega
  have l1 : (lv : Int) < 6 := by omega
  have lw : ((lv + 1 : Nat) : Int) = (lv : Int) + 1 := by omega
  clear hP hp hw hB
  unfold bArg
  go_enter Tryz.func192, Tryz.ntmps192
  go_wp2
  refine wp_scope_pass 0 (fun a' w' => ∃ (a : ATree) (u2 u3 u6 u7 u8 u9 u10 u11 u12 u13 u14 u15 u16 u17 u18 u19 u20 u21 u22 u23 u24 u25 u26 u27 u28 u29 u30 u31 u32 u33 u34 u35 u36 u37 u38 : Value), a' = { tmps := #[.pointer (some ⟨rb, 0, none⟩), .int .i64 lv, u2, u3, .pointer none, .pointer (some ⟨a.b, 0, none⟩), u6, u7, u8, u9, u10, u11, u12, u13, u14, u15, u16, u17, u18, u19, u20, u21, u22, u23, u24, u25, u26, u27, u28, u29, u30, u31, u32, u33, u34, u35, u36, u37, u38], defers := [] } ∧ BinJ f lv d w rb B r ts.length a w') (fun _ w' => leftOf w' rb) rfl (fun PASS => ?_) ?_
  · have PASS := Lib.hid PASS
    rcases bindT_some H1.out with ⟨⟨c, p⟩, hv, rfl⟩ | ⟨t, us, hv, h2⟩
    · have HV := (HB.out f (Nat.le_refl _)) w rb B d _ _ HP.out hv
      unfold bArg at HV
      rw [lw] at HV
      have HV := Lib.hid HV
      clear hv lw
      go_wp2_with fail
      refine HV.out.mono ?_
      rintro e w2 ⟨⟨b, rfl, h1, h2⟩, hF⟩
      exact ⟨rfl, ⟨b, rfl, h1, h2⟩, hF⟩
    · have HV := (HB.out f (Nat.le_refl _)) w rb B d _ _ HP.out hv
      unfold bArg at HV
      rw [lw] at HV
      have HV := Lib.hid HV
      have hl := leaves_le hv
      have H2 := Lib.hid h2
      clear hv h2 lw
      go_wp2_with fail
      refine HV.out.mono ?_
      rintro e w2 ⟨a, rfl, hG, hR2, hF2⟩
      have hJ : BinJ f lv d w rb B r ts.length a w2 := ⟨f, us, t, Nat.le_refl _, H2.out, hG, HP.out.next hR2 hF2 hl, hF2, hl⟩
      have HJ := Lib.hid hJ
      clear hG hR2 hF2 hl hJ
      go_wp2_with fail
      go_step3
      rename_i Q1 K1 hK1
      refine hK1 _ _ (PASS.out _ _ ?_)
      exact ⟨a, _, _, _, _, _, _, _, _, _, _, _, _, _, _, _, _, _, _, _, _, _, _, _, _, _, _, _, _, _, _, _, _, _, _, _, rfl, HJ.out⟩
  · rintro a' w1 ⟨a, u2, u3, u6, u7, u8, u9, u10, u11, u12, u13, u14, u15, u16, u17, u18, u19, u20, u21, u22, u23, u24, u25, u26, u27, u28, u29, u30, u31, u32, u33, u34, u35, u36, u37, u38, rfl, g, us, t, hg, hq, hG, hP1, hF, hl⟩
    have G1 := Lib.hid hG
    have P1 := Lib.hid hP1
    have F1 := Lib.hid hF
    have RL := Lib.hid hP1.rd.left
    have HL := Lib.hid hl
    have HQ := Lib.hid hq
    obtain ⟨tb, off, cap, hR⟩ := hP1.rd
    obtain ⟨sb, so, sc, hgl, hsl, hc0, hsc, hcs⟩ := hR.lev lv hlv
    have HCS := Lib.hid hcs
    obtain ⟨n, hn⟩ : ∃ n, n = (levL lv).length := ⟨_, rfl⟩
    have n2 : n ≤ 2 := by rw [hn]; match lv, hlv with | 0, _ => decide | 1, _ => decide | 2, _ => decide | 3, _ => decide | 4, _ => decide | 5, _ => decide
    rw [← hn] at hc0 hsc
    have HN := Lib.hid hn
    have hsz : sb < w1.heap.size := Nat.lt_trans hsl hR.rlt
    obtain ⟨ab, hab⟩ : ∃ b, b = a.b := ⟨_, rfl⟩
    rw [← hab]
    have HAB := Lib.hid hab
    clear hG hP1 hF hl hR hcs hn hq hab lw
    go_wp2_with fail
    go_loopw [5, 20] (fun v5 i wr => v5 = .pointer (some ⟨ab, 0, none⟩) ∧ ∃ k : Nat, k ≤ n ∧ i = .int .i64 k ∧ Hid (∀ (j : Nat) (y : ByteArray), j < k → (levL lv)[j]? = some y → isT y us = false) ∧ Hid (Below w1.heap.size w1 wr)) (fun _ i _ => n - (intOf i).toNat)
    case atStart => exact ⟨rfl, 0, Nat.zero_le _, rfl, Lib.hid (fun j y hj => by omega), Lib.hid (Below.refl _ _)⟩
    case round =>
      obtain ⟨rfl, k, hk, rfl, NO, BW⟩ := hrel
      by_cases hkn : k < n
      · obtain ⟨x, hx⟩ : ∃ x, (levL lv)[k]? = some x := ⟨_, List.getElem?_eq_getElem (by rw [← HN.out]; exact hkn)⟩
        have cx := (BW.out.cell (p := ⟨sb, so + k, none⟩) hsz).trans (HCS.out k x hx)
        have HX := Lib.hid hx
        have R2 := P1.out.rd.below BW.out
        clear hx
        by_cases hs : isT x us = true
        · have hlt := level_some HX.out hs (fun j y hj hy => NO.out j y hj hy)
          have HT := Lib.hid (take_yes wr rb us d x R2 hs)
          have HS := Lib.hid hs
          have LT := Lib.hid hlt
          have hpos := isT_cons hs
          have HPOS := Lib.hid hpos
          clear hs R2 hlt hpos
          cases g with
          | zero => cases HQ.out
          | succ g =>
          have hq : bindT (parseF g (.bin (lv + 1)) d us.tail) (fun y ts' => parseF g (.binLoop lv (.mk (levelT lv us) ByteArray.empty 0 [t, y])) d ts') = some r := by
            have hq := HQ.out
            rw [parseF, if_neg (by rw [LT.out.1]; exact LT.out.2)] at hq
            exact hq
          rw [LT.out.1] at hq
          have HQ2 := Lib.hid hq
          clear hq
          go_wp2_with fail
          refine HT.out.mono ?_
          rintro e w2 ⟨rfl, hR2, hF2⟩
          have P2 := Lib.hid ((P1.out.below BW.out).tail hR2 hF2)
          have F12 := Lib.hid ((RFr.below (rb := rb) BW.out).trans hF2)
          have HSG := Lib.hid (sign_of w2 x LT.out.2)
          obtain ⟨sk, hsk⟩ : ∃ k, k = signK x := ⟨_, rfl⟩
          rw [← hsk] at HSG
          have HSK := Lib.hid hsk
          clear hR2 hF2 HT hsk
          go_wp2_with fail
          refine HSG.out.mono ?_
          rintro e w3 ⟨rfl, hB3⟩
          have P3 := Lib.hid (P2.out.below hB3)
          have F13 := Lib.hid (F12.out.trans (RFr.below (rb := rb) hB3))
          have lw : ((lv + 1 : Nat) : Int) = (lv : Int) + 1 := by omega
          clear hB3 HSG
          rcases bindT_some HQ2.out with ⟨⟨c, p⟩, hv, rfl⟩ | ⟨y, vs, hv, h4⟩
          · have HV := (HB.out g (by omega)) w3 rb B d _ _ P3.out hv
            unfold bArg at HV
            rw [lw] at HV
            have HV := Lib.hid HV
            clear hv lw
            go_wp2_with fail
            refine HV.out.mono ?_
            rintro e w4 ⟨⟨b, rfl, h1, h2⟩, hF⟩
            exact ⟨rfl, PPost.pre (F1.out.trans F13.out) (r := .error (c, p)) ⟨⟨b, rfl, h1, h2⟩, hF⟩⟩
          · have HV := (HB.out g (by omega)) w3 rb B d _ _ P3.out hv
            unfold bArg at HV
            rw [lw] at HV
            have HV := Lib.hid HV
            have hll := leaves_le hv
            have H4 := Lib.hid h4
            clear hv lw h4
            go_wp2_with fail
            refine HV.out.mono ?_
            rintro e w4 ⟨c, rfl, hC, hR4, hF4⟩
            have hG13 := G1.out.rfr P1.out.lt F13.out
            have hG4 := hG13.rfr P1.out.lt hF4
            have F4 := (F1.out.trans F13.out).trans hF4
            have hfin := Got.two (k := sk) (t := ⟨#[]⟩) HP.out.le F4 hG4 (wA := w3) (fun x hx => (hG13.new x hx).2) (F1.out.trans F13.out).size hC
            have hb1 : Below w4.heap.size w4 (w4.alloc (.cells #[.pointer (some ⟨ab, 0, none⟩), .pointer (some ⟨c.b, 0, none⟩)] 22)) := (Below.refl _ _).alloc (Nat.le_refl _) _
            have hb2 : Below w4.heap.size w4 ((w4.alloc (.cells #[.pointer (some ⟨ab, 0, none⟩), .pointer (some ⟨c.b, 0, none⟩)] 22)).alloc (.cells #[.int .i64 sk, .string ⟨#[]⟩, .int .i64 0, .slice (some ⟨w4.heap.size, 0, none⟩) 2 2] 37)) := hb1.alloc (by simp) _
            have F6 := Lib.hid (F4.trans (RFr.below (rb := rb) hb2))
            have P6 := Lib.hid (((P3.out.next hR4 hF4 hll).below hb2))
            have FIN := Lib.hid hfin
            have HLL := Lib.hid hll
            clear hC hR4 hF4 hG4 hG13 F4 HV hb1 hb2 hfin hll
            go_wp2_with fail
            refine (node_any _ rb sk ⟨#[]⟩ _ 2 2).mono ?_
            rintro e w7 ⟨rfl, rfl⟩
            go_wp2
            go_step3
            refine ⟨rfl, ⟨.mk (w4.heap.size + 1) (.slice (some ⟨w4.heap.size, 0, none⟩) 2 2) sk ⟨#[]⟩ 0 [a, c], _, _, _, _, _, _, _, _, _, _, _, _, _, _, _, _, _, _, _, _, _, _, _, _, _, _, _, _, _, _, _, _, _, _, _, rfl, g, vs, .mk sk ByteArray.empty 0 [t, y], by omega, ?_, ?_, P6.out, F6.out, ?_⟩, ?_⟩
            · rw [HSK.out]; exact H4.out
            · rw [HAB.out]; exact FIN.out
            · have := HLL.out; have := HL.out; have := tail_le us; omega
            · rw [P6.out.rd.left, RL.out]; have := HLL.out; have := HPOS.out; omega
        · have hs' : isT x us = false := by simpa using hs
          have HT := Lib.hid (take_no wr rb us d x R2 hs')
          have HS := Lib.hid hs'
          clear hs hs' R2
          go_wp2_with fail
          refine HT.out.mono ?_
          rintro e w2 ⟨rfl, hB2⟩
          have B2 := Lib.hid hB2
          clear hB2
          go_wp2
          go_roundw
          case rel => exact ⟨rfl, k + 1, by omega, by go_num, Lib.hid (fun j y hj hy => by
            by_cases e : j = k
            · subst e; obtain rfl := Option.some.inj (HX.out.symm.trans hy); exact HS.out
            · exact NO.out j y (by omega) hy), Lib.hid (BW.out.trans (B2.out.mono BW.out.size))⟩
          case measure => simp [intOf]; omega
      · have hkk : k = n := by omega
        have NO2 : Hid (levelT lv us = 0) := Lib.hid (level_none fun i y hi => NO.out i y (by rw [hkk, HN.out]; exact (List.getElem?_eq_some_iff.1 hi).1) hi)
        clear hkk
        go_wp2_with fail
        simp only [Exit.jump]
        go_ret
        cases g with
        | zero => cases HQ.out
        | succ g =>
          have hq := HQ.out
          rw [parseF, if_pos NO2.out] at hq
          obtain rfl := Option.some.inj hq
          rw [HAB.out]
          exact ⟨a, rfl, G1.out.rfr P1.out.lt (RFr.below BW.out), P1.out.rd.below BW.out, F1.out.trans (RFr.below BW.out)⟩
end Go.Proofs.YtgifgiipojedbaaGreatDoor

namespace Go.Proofs.YtgifgiipojedbaaGreatDoor
open Go

section
variable {P : Program} {ops : Array Oper} {md : Region.Mode}

/-- what is taken first: copies, addresses, arithmetic -/
def wpPre (P : Program) (ops : Array Oper) (K : Act → Prop) : List Oper → Act → Prop
  | [], a => K a
  | o :: r, a => ∃ v, YieldsIf P ops (fun _ => True) o v a ∧ wpPre P ops K r (a.put o.dst v)
theorem wpPre_take {K : Act → Prop} {o : Oper} {r : List Oper} {a : Act} (v : Value)
    (hw : Region.wanted o (yielded ops a.tmps) = true) (hy : ∀ w', True → (execOp a.eval o).run P w' = .ok (.value v) w') (h : wpPre P ops K r (a.put o.dst v)) : wpPre P ops K (o :: r) a :=
  ⟨v, .inl ⟨hw, hy⟩, h⟩
def gpreB (md : Region.Mode) (ops : Array Oper) : List Nat → Array Bool → Bool
  | [], _ => true
  | i :: r, listed => (Region.ready md ops listed).contains i && Region.free md ops listed i && gpreB md ops r (listed.setIfInBounds i true)
def dagB (md : Region.Mode) (ops : Array Oper) (pre L ph : List Nat) : Bool :=
  Region.noSelect ops && phaseB md ops ph && seqsB md ops ph (((List.range ops.size).map fun j => !ph.contains j).toArray) && gpreB md ops pre (markAll ph (Array.replicate ops.size false)) &&
    decide (pre.length + L.length + ph.length = ops.size) && (pre.all fun i => decide (i < ops.size)) && ((List.range ops.size).all fun j => pre.contains j || L.contains j || ph.contains j)
theorem getD_setB {m : Array Bool} {i j : Nat} (h : i < m.size) : (m.setIfInBounds i true).getD j false = if i = j then true else m.getD j false := by
  by_cases e : i = j
  · subst e; simp [h]
  · rw [getD_set_ne false e, if_neg e]

/-- whichever comes up: what has come up tells what holds -/
theorem dag_sound {Q : Exit → Act → World → Prop} {L : List Nat} (Inv : Array Bool → Act → World → Prop) (hback : backB md ops = true)
    (hS : ∀ listed i a w, listed.size = ops.size → i ∈ L → i < ops.size → listed.getD i false = false → (∀ j, waits md ops i j = true → listed.getD j false = true) → Inv listed a w → wpOp P ops Q i (fun a' w' => Inv (listed.setIfInBounds i true) a' w') a w)
    (hE : ∀ listed a w, (∀ j, j < ops.size → listed.getD j false = true) → Inv listed a w → Q .normal a w) :
    ∀ (k : Nat) (listed : Array Bool) (a : Act) (w : World), listed.size = ops.size → (∀ j, j < ops.size → listed.getD j false = true ∨ j ∈ L) → (L.filter fun j => !listed.getD j true).length ≤ k → Inv listed a w → wpAnyH P md ops Q (fun _ => True) k listed a w := by
  have done : ∀ listed : Array Bool, listed.size = ops.size → Region.ready md ops listed = [] → ∀ j, j < ops.size → listed.getD j false = true := by
    intro listed hs hr j hj
    cases h : listed.getD j false with
    | true => rfl
    | false => exact absurd hr (some_ready hback hs j hj h)
  intro k
  induction k with
  | zero =>
    intro listed a w hs hL hk hI
    have hr : Region.ready md ops listed = [] := by
      refine List.eq_nil_iff_forall_not_mem.2 fun i hi => ?_
      obtain ⟨h0, o, ho, _⟩ := mem_ready.1 hi
      have hil : i < ops.size := (Array.getElem?_eq_some_iff.1 ho).1
      have h1 : i ∈ L := (hL i hil).resolve_left (by rw [← getD_TF (by omega), h0]; simp)
      have : i ∈ L.filter fun j => !listed.getD j true := List.mem_filter.2 ⟨h1, by rw [h0]; rfl⟩
      have := List.length_pos_of_mem this
      omega
    exact ⟨hr, hE listed a w (done listed hs hr) hI⟩
  | succ k ih =>
    intro listed a w hs hL hk hI
    refine ⟨fun hr => hE listed a w (done listed hs hr) hI, fun i hi => ?_⟩
    obtain ⟨h0, o, ho, hall⟩ := mem_ready.1 hi
    have hil : i < ops.size := (Array.getElem?_eq_some_iff.1 ho).1
    have h0' : listed.getD i false = false := by rw [← getD_TF (by omega)]; exact h0
    have h1 : i ∈ L := (hL i hil).resolve_left (by rw [h0']; simp)
    refine wpOp_mono (fun a' w' h => ⟨trivial, ih _ a' w' (by simpa using hs) (fun j hj => ?_) ?_ h⟩) (hS listed i a w hs h1 hil h0' (fun j hj => waits_spec hj hi) hI)
    · rw [getD_setB (by omega)]
      by_cases e : i = j
      · rw [if_pos e]; exact .inl rfl
      · rw [if_neg e]; exact hL j hj
    · have hlt : (L.filter fun j => !(listed.setIfInBounds i true).getD j true).length < (L.filter fun j => !listed.getD j true).length := by
        have sub : ∀ l : List Nat, (l.filter fun j => !(listed.setIfInBounds i true).getD j true).length ≤ (l.filter fun j => !listed.getD j true).length ∧ (i ∈ l → (l.filter fun j => !(listed.setIfInBounds i true).getD j true).length < (l.filter fun j => !listed.getD j true).length) := by
          intro l
          induction l with
          | nil => exact ⟨Nat.le_refl _, fun h => by cases h⟩
          | cons x l ihl =>
            by_cases e : i = x
            · subst e
              have e1 : (listed.setIfInBounds i true).getD i true = true := by simp [show i < listed.size by omega]
              simp only [List.filter_cons, e1, h0, Bool.not_true, Bool.not_false, if_true, Bool.false_eq_true, if_false, List.length_cons]
              exact ⟨by omega, fun _ => by omega⟩
            · have e1 : (listed.setIfInBounds i true).getD x true = listed.getD x true := getD_set_ne true e
              simp only [List.filter_cons, e1]
              cases listed.getD x true
              · simp only [Bool.not_false, if_true, List.length_cons]
                exact ⟨by omega, fun h => by have := ihl.2 (by rcases List.mem_cons.1 h with h | h; exact absurd h e; exact h); omega⟩
              · simp only [Bool.not_true, Bool.false_eq_true, if_false]
                exact ⟨ihl.1, fun h => ihl.2 (by rcases List.mem_cons.1 h with h | h; exact absurd h e; exact h)⟩
        exact (sub L).2 h1
      omega

theorem pre_sound {Q : Exit → Act → World → Prop} (hsel : Region.noSelect ops = true) (hQ : ∀ c a d v w, Q (.panic c) (Act.put a d v) w → Q (.panic c) a w) {w : World} {fuel : Nat} :
    ∀ (l : List Nat) (listed : Array Bool) (a : Act), gpreB md ops l listed = true → (∀ i ∈ l, i < ops.size) → wpPre P ops (fun a' => wpAnyH P md ops Q (fun _ => True) fuel (markAll l listed) a' w) (l.filterMap (ops[·]?)) a → wpAnyH P md ops Q (fun _ => True) (fuel + l.length) listed a w
  | [], listed, a, _, _, h => h
  | i :: l, listed, a, hB, hin, h => by
    simp only [gpreB, Bool.and_eq_true] at hB
    obtain ⟨⟨hr, hf⟩, hB'⟩ := hB
    have hil := hin i (List.mem_cons_self ..)
    have ho : ops[i]? = some ops[i] := Array.getElem?_eq_getElem hil
    rw [List.filterMap_cons, ho] at h
    obtain ⟨v, hy, h'⟩ := h
    have e : fuel + (i :: l).length = (fuel + l.length) + 1 := by simp; omega
    rw [e]
    exact wpAnyH_take ho hsel hf hr (fun c a w => hQ c a _ _ w) hy trivial (pre_sound hsel hQ l _ _ hB' (fun j hj => hin j (List.mem_cons_of_mem _ hj)) h')

/-- THE REGION -/
theorem wp_region_dag {Q : Exit → Act → World → Prop} {id : Nat} {l : List Oper} {a : Act} {w : World} (pre L ph : List Nat) (hm : P.follows .mixedOrders = true)
    (hB : dagB .any l.toArray pre L ph = true) (hQ : ∀ c a d v w, Q (.panic c) (Act.put a d v) w → Q (.panic c) a w) (Inv : Array Bool → Act → World → Prop)
    (hP : wpPre P l.toArray (fun a' => Inv (markAll pre (markAll ph (Array.replicate l.toArray.size false))) a' w.drew) (pre.filterMap (l.toArray[·]?)) a)
    (hS : ∀ listed i a w, listed.size = l.toArray.size → i ∈ L → i < l.toArray.size → listed.getD i false = false → (∀ j, waits .any l.toArray i j = true → listed.getD j false = true) → Inv listed a w → wpOp P l.toArray (Ends (wpList P l.toArray Q (ph.filterMap (l.toArray[·]?))) Q) i (fun a' w' => Inv (listed.setIfInBounds i true) a' w') a w)
    (hE : ∀ listed a w, (∀ j, j < l.toArray.size → listed.getD j false = true) → Inv listed a w → wpList P l.toArray Q (ph.filterMap (l.toArray[·]?)) a w) : (Code.region id l.toArray true).wp P Q a w := by
  simp only [dagB, Bool.and_eq_true, decide_eq_true_eq] at hB
  obtain ⟨⟨⟨⟨⟨⟨hsel, hph⟩, hseq⟩, hpre⟩, hlen⟩, hin1⟩, hcov⟩ := hB
  refine wp_region_any hm ?_
  have hback : backB .any l.toArray = true := by
    cases ph with
    | nil => simp [phaseB] at hph
    | cons t r => simp only [phaseB, Bool.and_eq_true] at hph; exact hph.1.1.1
  have hin : ∀ t ∈ ph, t < l.toArray.size := by
    cases ph with
    | nil => simp [phaseB] at hph
    | cons t r =>
      simp only [phaseB, Bool.and_eq_true] at hph
      intro u hu
      simpa using List.all_eq_true.1 hph.1.1.2 u hu
  have hsz : (markAll pre (markAll ph (Array.replicate l.toArray.size false))).size = l.toArray.size := by rw [size_markAll, size_markAll]; simp
  have G : ∀ a w, Inv (markAll pre (markAll ph (Array.replicate l.toArray.size false))) a w → wpAnyH P .any l.toArray (Ends (wpList P l.toArray Q (ph.filterMap (l.toArray[·]?))) Q) (fun _ => True) L.length (markAll pre (markAll ph (Array.replicate l.toArray.size false))) a w := fun a w h =>
    dag_sound (P := P) (Q := Ends (wpList P l.toArray Q (ph.filterMap (l.toArray[·]?))) Q) Inv hback hS hE L.length _ a w hsz (fun j hj => by
      have h1 := List.all_eq_true.1 hcov j (List.mem_range.2 hj)
      simp only [Bool.or_eq_true, List.contains_eq_mem, decide_eq_true_eq] at h1
      rcases h1 with (h1 | h1) | h1
      · exact .inl (markAll_getD_in h1 (by rw [size_markAll]; simpa using hj))
      · exact .inr h1
      · exact .inl (markAll_getD_keep (markAll_getD_in h1 (by simpa using hj)))) (List.length_filter_le _ _) h
  have mono : ∀ (os : List Oper) (a : Act), wpPre P l.toArray (fun a' => Inv (markAll pre (markAll ph (Array.replicate l.toArray.size false))) a' w.drew) os a → wpPre P l.toArray (fun a' => wpAnyH P .any l.toArray (Ends (wpList P l.toArray Q (ph.filterMap (l.toArray[·]?))) Q) (fun _ => True) L.length (markAll pre (markAll ph (Array.replicate l.toArray.size false))) a' w.drew) os a := by
    intro os
    induction os with
    | nil => intro a h; exact G a w.drew h
    | cons o os ih => intro a h; obtain ⟨v, hy, h⟩ := h; exact ⟨v, hy, ih _ h⟩
  have H := pre_sound (P := P) (md := .any) (Q := Ends (wpList P l.toArray Q (ph.filterMap (l.toArray[·]?))) Q) hsel hQ pre _ a hpre (fun i hi => by simpa using List.all_eq_true.1 hin1 i hi) (mono _ a hP)
  have key := wpAny_phase (Q := Q) hph (fun m hs hm' => ?_) (L.length + pre.length) (Array.replicate l.toArray.size false) a w.drew (by simp) ?_ ?_ (wpAny_of_held _ _ _ _ H)
  · rw [show L.length + pre.length + ph.length = l.toArray.size by omega] at key; exact key
  · have : m = ((List.range l.toArray.size).map fun j => !ph.contains j).toArray := by
      apply Array.ext
      · simp only [hs, List.size_toArray, List.length_map, List.length_range]
      · intro j h1 h2
        have := hm' j (by omega)
        simp only [List.getElem_toArray, List.getElem_map, List.getElem_range]
        rw [← this]
        simp [h1]
    rw [this]; exact hseq
  · intro j o _ hl
    rw [getD_repl] at hl
    cases hl
  · intro t _
    exact getD_repl _ _
end
end Go.Proofs.YtgifgiipojedbaaGreatDoor
