/- The document's parser: a statement that is a value has one; braces. The document's parser: lemmas on nodes that grow. -/
import Derived.Test.YtgmnfgljkocnpaaGreatDoorJ01
import Derived.Test.YtgmnfgljkocnpaaGreatDoorJ18
namespace Go.Proofs.YtgmnfgljkocnpaaGreatDoor
open Go Go.RowKit
set_option maxRecDepth 100000
set_option maxHeartbeats 20000000
set_option linter.unusedVariables false
theorem Zai {f d : Nat} {b : Bool} {σ σ' : RS} {t : Tree} (h : refF f (.braces b) d σ = some (t, σ')) : t.kind = 6 := by
 cases f with
 | zero => simp [refF] at h
 | succ f =>
   rw [refF] at h;obtain ⟨l, σ1, _, h⟩ := Zf h;simp only [Option.some.injEq, Prod.mk.injEq] at h;rw [← h.1]; rfl
theorem Ze6 {f d : Nat} {k : Int} {s : ByteArray} {σ σ' : RS} {t : Tree} (h : refF f (.func k s) d σ = some (t, σ')) : t.kind = k := by
 cases f with
 | zero => simp [refF] at h
 | succ f =>
   rw [refF] at h;obtain ⟨l, σ1, _, h⟩ := Zf h;obtain ⟨l, σ1, _, h⟩ := Zf h;simp only [Option.some.injEq, Prod.mk.injEq] at h;rw [← h.1]; rfl
theorem Zha (σ : RS) : Z3t σ ≠ 15 := by
 unfold Z3t;split;·decide
 ·split;·decide
  ·split <;> decide
theorem Z7f {a t : Tree} {σ σ' : RS} (h : some (a, σ) = some (t, σ')) : a = t := by simp only [Option.some.injEq, Prod.mk.injEq] at h; exact h.1
theorem Z79 {f d : Nat} {σ σ' : RS} {t : Tree} (h : refF f .stmt d σ = some (t, σ')) (hk : t.kind = 15) : t.kids ≠ [] := by
 cases f with
 | zero => simp [refF] at h
 | succ f =>
 rw [refF] at h;by_cases c : 30 < d
 ·rw [if_pos c] at h;rw [← Z7f h] at hk; cases hk
 rw [if_neg c] at h;by_cases c : Zg Zb σ = true;·rw [if_pos c] at h; have := Zai h; omega
 rw [if_neg c] at h;by_cases c : Zg Zh σ = true;·rw [if_pos c] at h; rw [← Z7f h] at hk; cases hk
 rw [if_neg c] at h;by_cases c : Zg Z8 σ = true;·rw [if_pos c] at h; have := Ze6 h; omega
 rw [if_neg c] at h;by_cases c : Zg s_if σ = true
 ·rw [if_pos c] at h;obtain ⟨_, _, _, h⟩ := Zf h;obtain ⟨_, σ2, _, h⟩ := Zf h;try simp only at h
  split at h
  ·obtain ⟨_, _, _, h⟩ := Zf h;rw [← Z7f h] at hk; cases hk
  ·rw [← Z7f h] at hk; cases hk
 rw [if_neg c] at h;by_cases c : (Zg Zp σ || Zg Z01 σ) = true
 ·rw [if_pos c] at h;obtain ⟨_, _, _, h⟩ := Zf h;obtain ⟨_, _, _, h⟩ := Zf h;rw [← Z7f h] at hk;simp only [Tree.kind] at hk;split at hk <;> cases hk
 rw [if_neg c] at h;by_cases c : Zg Z1i σ = true
 ·rw [if_pos c] at h;obtain ⟨_, _, _, h⟩ := Zf h;have key : ∀ (l : List Tree) (σ1 : RS), (if Zg Zz σ1 = true then Z03 (refF f (.braces false) d (advR σ1)) fun c σ => tryF (l ++ [.mk 14 ByteArray.empty 0 [c]]) σ else tryF l σ1) = some (t, σ') → t.kind = 12 := by
   intro l σ1 h;split at h
   ·obtain ⟨_, _, _, h⟩ := Zf h;unfold tryF at h;rw [← Z7f h]; rfl
   ·unfold tryF at h;rw [← Z7f h]; rfl
  try simp only at h
  split at h
  ·obtain ⟨_, _, _, h⟩ := Zf h;have := key _ _ h; omega
  ·have := key _ _ h; omega
 rw [if_neg c] at h;by_cases c : Z3t σ ≠ 0
 ·rw [if_pos c] at h;have hd := Zha σ;split at h
  ·obtain ⟨_, _, _, h⟩ := Zf h;rw [← Z7f h] at hk; exact absurd hk hd
  ·rw [← Z7f h] at hk; exact absurd hk hd
 rw [if_neg c] at h;by_cases c : Zg Z0b σ = true
 ·rw [if_pos c] at h;split at h;·rw [← Z7f h] at hk; cases hk
  ·obtain ⟨_, _, _, h⟩ := Zf h;rw [← Z7f h] at hk; cases hk
 rw [if_neg c] at h;by_cases c : Zg Z1k σ = true
 ·rw [if_pos c] at h;obtain ⟨_, _, _, h⟩ := Zf h;rw [← Z7f h] at hk; cases hk
 rw [if_neg c] at h;obtain ⟨_, _, _, h⟩ := Zf h;rw [← Z7f h];simp [Tree.kids]
def BInv (w0 : World) (C : QC) (B d f : Nat) (t : Tree) (σ' : RS) (g : Nat) (v : Value) (wr : World) : Prop :=
 ∃ (acc : List Tree) (kids : List ATree) (σ : RS), refF g (.bracesL acc) d σ = some (t, σ') ∧ ListAt w0 B wr v kids acc ∧ QS wr C σ ∧ RFr w0 wr C.rb ∧ acc.length + g ≤ f ∧ ∀ x ∈ acc, x.kind = 15 → x.kids ≠ []
theorem Z99 (f : Nat) (hS : ∀ g, g < f → Z0y 25 qd .stmt g) : Z0y 50 (Z7x false) (.braces false) (f + 1) := by
 intro w C B d σ t σ' hQ hr hB hd hp;rw [refF] at hp;obtain ⟨l, σ1, hl, hp⟩ := Zf hp;simp only [Option.some.injEq, Prod.mk.injEq] at hp;have HP := lh hp;have HM := lh (Z04 hQ Zb B hr hB);have HR := lh hr;have HB := lh hB;have HD := lh hd;have HS := lh hS;have HL := lh hl;clear hQ hB hr hp hd hS hl;unfold Z7x;go_enter Tryz.func50, Tryz.ntmps50
 go_wp2_with fail
 refine HM.out.mono ?_;rintro e w0 ⟨rfl, h1, h2⟩;have ST := lh (show ∃ g, g ≤ f ∧ BInv w0 C B d f l σ1 g (.slice none 0 0) w0 from ⟨f, Nat.le_refl _, [], [], _, HL.out, ListAt.nil, h1, RFr.refl _ _, by simp, fun x hx => by cases hx⟩);have F0 := lh h2;clear h1 h2 HM;go_wp2_with fail
 go_loopw [7] (fun v wr => ∃ g, g ≤ f ∧ BInv w0 C B d f l σ1 g v wr) (fun v wr => least fun g => g ≤ f ∧ BInv w0 C B d f l σ1 g v wr)
 case atStart => exact ST.out
 case round =>
  have hI := Z3j hrel;clear ST;obtain ⟨g, hg⟩ : ∃ g, g = least fun g => g ≤ f ∧ BInv w0 C B d f l σ1 g u7 wr := ⟨_, rfl⟩
  rw [← hg] at hI;have HG := lh hg;clear hg hrel;obtain ⟨hgF, acc, kids, σ, hp, hL, hQ, hF, h8, hx⟩ := hI;cases g with
  | zero => simp [refF] at hp
  | succ g =>
  rw [refF] at hp;have HO := Z1y hQ;have HN := Zd hQ Zm;obtain ⟨p, cp, rfl⟩ := hL.slice;have HL := lh hL;have HQ := lh hQ;have HF := lh hF;have H8 := lh h8;have HX := lh hx;have HGF := lh hgF;by_cases hf : σ.f.isNone = true;rotate_left
  ·have hf : σ.f.isNone = false := Bool.eq_false_iff.2 hf;rw [hf] at HO;rw [if_neg (by simp [hf])] at hp;simp only [Option.some.injEq, Prod.mk.injEq] at hp;have HO := lh HO;have HE := lh hp;have F1 := HF;have Q1 := HQ;clear hL hQ hF h8 hgF hf hp HN hx;go_wp2_with fail
   refine HO.out.mono ?_;rintro e w1 ⟨rfl, rfl⟩;go_wp2_with fail
   refine (Z04 Q1.out Zm B HR.out (Nat.le_trans HB.out (F0.out.trans F1.out).size)).mono ?_;rintro e w2 ⟨rfl, h2, h3⟩;have F2 := lh ((F0.out.trans F1.out).trans h3);have L2 := lh (HL.out.rfr HR.out h3);have hal : Below w2.heap.size w2 (w2.alloc (.cells #[.int .i64 6, .string ⟨#[]⟩, .int .i64 0, .slice p acc.length cp] 44)) := (Below.refl _ _).alloc (Nat.le_refl _) _;have N3 := lh ((L2.out.pre F0.out.size).node (k := 6) (tx := ⟨#[]⟩) (n := 0) (Nat.le_trans HB.out F2.out.size) F2.out.size);have Q3 := lh (h2.below hal);have F3 := lh (F2.out.trans (RFr.below (rb := C.rb) hal))
   have L3 := lh (L2.out.rfr HR.out (RFr.below (rb := C.rb) hal));clear h2 h3 hal;go_wp2;go_ret;obtain ⟨h4, h5⟩ := HE.out;obtain ⟨h6, h7⟩ := HP.out;refine ⟨.mk w2.heap.size (.slice p acc.length cp) 6 ⟨#[]⟩ 0 kids, rfl, ?_, by rw [← h7, ← h5]; exact Q3.out, F3.out⟩;rw [← h6, ← h4];exact N3.out
  rw [hf] at HO;by_cases hn : Zg Zm σ = true
  ·rw [hn] at HN;rw [if_neg (by simp [hn])] at hp;simp only [Option.some.injEq, Prod.mk.injEq] at hp;have HO := lh HO;have HN := lh HN;have HE := lh hp;clear hL hQ hF h8 hgF hf hn hp hx;go_wp2_with fail
   refine HO.out.mono ?_;rintro e w1 ⟨rfl, rfl⟩;go_wp2_with fail
   refine HN.out.mono ?_;rintro e w1 ⟨rfl, hb1⟩;have Q1 := lh (HQ.out.below hb1);have F1 := lh (HF.out.trans (RFr.below (rb := C.rb) hb1));replace HL := lh (HL.out.rfr HR.out (RFr.below (rb := C.rb) hb1))
   clear hb1;go_wp2_with fail
   refine (Z04 Q1.out Zm B HR.out (Nat.le_trans HB.out (F0.out.trans F1.out).size)).mono ?_;rintro e w2 ⟨rfl, h2, h3⟩;have F2 := lh ((F0.out.trans F1.out).trans h3);have L2 := lh (HL.out.rfr HR.out h3);have hal : Below w2.heap.size w2 (w2.alloc (.cells #[.int .i64 6, .string ⟨#[]⟩, .int .i64 0, .slice p acc.length cp] 44)) := (Below.refl _ _).alloc (Nat.le_refl _) _;have N3 := lh ((L2.out.pre F0.out.size).node (k := 6) (tx := ⟨#[]⟩) (n := 0) (Nat.le_trans HB.out F2.out.size) F2.out.size);have Q3 := lh (h2.below hal);have F3 := lh (F2.out.trans (RFr.below (rb := C.rb) hal))
   have L3 := lh (L2.out.rfr HR.out (RFr.below (rb := C.rb) hal));clear h2 h3 hal;go_wp2;go_ret;obtain ⟨h4, h5⟩ := HE.out;obtain ⟨h6, h7⟩ := HP.out;refine ⟨.mk w2.heap.size (.slice p acc.length cp) 6 ⟨#[]⟩ 0 kids, rfl, ?_, by rw [← h7, ← h5]; exact Q3.out, F3.out⟩;rw [← h6, ← h4];exact N3.out
  have hn : Zg Zm σ = false := by simpa using hn
  rw [hn] at HN;rw [if_pos (by simp [hn, hf])] at hp;obtain ⟨x, σ3, hit, hrest⟩ := Zf hp;have IT := lh hit;have RE := lh hrest;have HO := lh HO;have HN := lh HN;have HK := lh (hL.len);have XX := lh (fun hk => Z79 hit hk);obtain ⟨i0, hi, hz0, hz1, hz2⟩ := info_parts Tryz.infoPtr;clear hL hQ hF h8 hgF hn hp hit hrest hx hf;go_wp2_with fail
  refine HO.out.mono ?_;rintro e w1 ⟨rfl, rfl⟩;go_wp2_with fail
  refine HN.out.mono ?_;rintro e w1 ⟨rfl, hb1⟩;have Q1 := lh (HQ.out.below hb1);have F1 := lh (HF.out.trans (RFr.below (rb := C.rb) hb1));have L1 := lh (HL.out.rfr HR.out (RFr.below (rb := C.rb) hb1));have hdd := HD.out;clear hb1 HO HN HQ HF HL;go_wp2_with fail
  refine (HS.out g (by have := HGF.out; omega) w1 C B (d + 1) _ _ _ Q1.out HR.out (Nat.le_trans HB.out (F0.out.trans F1.out).size) (by have := HGF.out; omega) IT.out).mono ?_;rintro e w2 ⟨a, rfl, h2, h3, h4⟩;have A2 := lh h2;have Q2 := lh h3;have F2 := lh h4;have L2 := lh (L1.out.rfr HR.out h4);clear h2 h3 h4 Q1
  go_wp2_with (at_builtin; go_must (refine wpList_append_lies _ rfl (.tmp 18) (.tmp 23) 42 rfl B 22 i0 _ 1 8 Tryz.underlying42 hi hz0 hz1 hz2 rfl (by decide) (.slice p acc.length cp) kids.length (kids.map ATree.ptr) rfl (L2.out.row.alloc _) ⟨w2.heap.size, 0, none⟩ 1 1 [a.ptr] rfl rfl (World.news_of_block (cs := #[a.ptr]) (t := 22) (fr := (0, 0)) (heap_alloc_new w2 _)) (by simp [ATree.ptr, Value.oneCell']) (by decide) (by have := HK.out; have := H8.out; unfold maxLen; omega) (by have := HK.out; have := H8.out; omega) (by simp; have := F0.out.size; have := F1.out.size; have := F2.out.size; have := HB.out; omega) (w2.heap.size + 1) (by simp) ?_); intro gg cap w4 hown2 hgrow2 hat2 hgl2)
  have hpush := L2.out.push (wA := w1) (fun y hy => (L1.out.ks.new y hy).2) (fun y hy => (L1.out.own y hy).2.1) A2.out F1.out.size F2.out.size ((Below.refl _ _).alloc (Nat.le_refl _) _) hgrow2 hown2 (by rcases hat2 with h | h; (exact .inl h); (exact .inr (by omega))) hgl2 (F1.out.trans F2.out);have hinv : g ≤ f ∧ BInv w0 C B d f l σ1 g (.slice (some ⟨gg, 0, none⟩) (kids.length + 1) cap) w4 :=
   ⟨by have := HGF.out; omega, acc ++ [x], kids ++ [a], σ3, RE.out, hpush.1, Q2.out.keep fun k hk => hpush.2.1 k (by have := Q2.out.rlt; omega) (fun e => by have h1 := (L2.out.own k e).1; have h2 := HR.out; have h3 := HB.out; have h4 := F0.out.size; omega), hpush.2.2.2, by have := H8.out; simp; omega, fun y hy => by
    rcases List.mem_append.1 hy with hy | hy;·exact HX.out y hy
    ·simp only [List.mem_singleton] at hy; subst hy; exact XX.out⟩
  exact ⟨⟨g, hinv⟩, by rw [← HG.out]; exact Nat.lt_succ_of_le (Z22 hinv)⟩
theorem Za0 (f : Nat) (hS : ∀ g, g < f → Z0y 25 qd .stmt g) : Z0y 50 (Z7x true) (.braces true) (f + 1) := by
 intro w C B d σ t σ' hQ hr hB hd hp;rw [refF] at hp;obtain ⟨l, σ1, hl, hp⟩ := Zf hp;simp only [Option.some.injEq, Prod.mk.injEq] at hp;have HP := lh hp;have HM := lh (Z04 hQ Zb B hr hB);have HR := lh hr;have HB := lh hB;have HD := lh hd;have HS := lh hS;have HL := lh hl;clear hQ hB hr hp hd hS hl;unfold Z7x;go_enter Tryz.func50, Tryz.ntmps50
 go_wp2_with fail
 refine HM.out.mono ?_;rintro e w0 ⟨rfl, h1, h2⟩;have ST := lh (show ∃ g, g ≤ f ∧ BInv w0 C B d f l σ1 g (.slice none 0 0) w0 from ⟨f, Nat.le_refl _, [], [], _, HL.out, ListAt.nil, h1, RFr.refl _ _, by simp, fun x hx => by cases hx⟩);have F0 := lh h2;clear h1 h2 HM;go_wp2_with fail
 go_loopw [7] (fun v wr => ∃ g, g ≤ f ∧ BInv w0 C B d f l σ1 g v wr) (fun v wr => least fun g => g ≤ f ∧ BInv w0 C B d f l σ1 g v wr)
 case atStart => exact ST.out
 case round =>
  have hI := Z3j hrel;clear ST;obtain ⟨g, hg⟩ : ∃ g, g = least fun g => g ≤ f ∧ BInv w0 C B d f l σ1 g u7 wr := ⟨_, rfl⟩
  rw [← hg] at hI;have HG := lh hg;clear hg hrel;obtain ⟨hgF, acc, kids, σ, hp, hL, hQ, hF, h8, hx⟩ := hI;cases g with
  | zero => simp [refF] at hp
  | succ g =>
  rw [refF] at hp;have HO := Z1y hQ;have HN := Zd hQ Zm;obtain ⟨p, cp, rfl⟩ := hL.slice;have HL := lh hL;have HQ := lh hQ;have HF := lh hF;have H8 := lh h8;have HX := lh hx;have HGF := lh hgF;by_cases hf : σ.f.isNone = true;rotate_left
  ·have hf : σ.f.isNone = false := Bool.eq_false_iff.2 hf;rw [hf] at HO;rw [if_neg (by simp [hf])] at hp;simp only [Option.some.injEq, Prod.mk.injEq] at hp;have HO := lh HO;have HE := lh hp;have F1 := HF;have Q1 := HQ;clear hL hQ hF h8 hgF hf hp HN hx;go_wp2_with fail
   refine HO.out.mono ?_;rintro e w1 ⟨rfl, rfl⟩;go_wp2_with fail
   refine (Z04 Q1.out Zm B HR.out (Nat.le_trans HB.out (F0.out.trans F1.out).size)).mono ?_;rintro e w2 ⟨rfl, h2, h3⟩;have F2 := lh ((F0.out.trans F1.out).trans h3);have L2 := lh (HL.out.rfr HR.out h3);have hal : Below w2.heap.size w2 (w2.alloc (.cells #[.int .i64 6, .string ⟨#[]⟩, .int .i64 0, .slice p acc.length cp] 44)) := (Below.refl _ _).alloc (Nat.le_refl _) _;have N3 := lh ((L2.out.pre F0.out.size).node (k := 6) (tx := ⟨#[]⟩) (n := 0) (Nat.le_trans HB.out F2.out.size) F2.out.size);have Q3 := lh (h2.below hal);have F3 := lh (F2.out.trans (RFr.below (rb := C.rb) hal))
   have L3 := lh (L2.out.rfr HR.out (RFr.below (rb := C.rb) hal));clear h2 h3 hal;have HO3 := Z1y Q3.out;by_cases hok : (Z08 Zm σ).f.isNone = true
   ·rw [hok] at HO3;have HO3 := lh HO3;have HOK := lh hok;clear hok;go_wp2_with fail
    refine HO3.out.mono ?_;rintro e w3 ⟨rfl, rfl⟩;clear HO3;go_wp2_with fail
    refine (Z51 w0 _ B _ kids acc L3.out HX.out).mono ?_;rintro e w4 ⟨rfl, hb4⟩;have N4 := N3.out.rfr HR.out (RFr.below (rb := C.rb) hb4);have F4 := F3.out.trans (RFr.below (rb := C.rb) hb4);have Q4 := lh (Q3.out.below hb4);have hblk := N4.at'.blkOf;simp only [ATree.b, ATree.v, ATree.kind, ATree.text, ATree.n] at hblk;have z1 : w4.cell? ⟨w2.heap.size, 1, none⟩ = some (.string ⟨#[]⟩) := by simp [World.cell?, hblk]
    have zz : w4.frozen? ⟨w2.heap.size, 1, none⟩ = false := by simp [World.frozen?, hblk]
    have FIN := lh (Got.text0 (t' := Z0w acc) HR.out HB.out N4 F4);clear hb4 N4 F4 hblk;go_wp2;go_ret;obtain ⟨h4, h5⟩ := HE.out;obtain ⟨h6, h7⟩ := HP.out;obtain ⟨g1, g2, g3⟩ := FIN.out;refine ⟨.mk w2.heap.size (.slice p acc.length cp) 6 (Z0w acc) 0 kids, rfl, ?_, by rw [← h7, ← h5]; exact Q4.out.keep fun k hk => g3 k (by have := HR.out; omega), g2⟩;rw [← h5, HOK.out] at h6;rw [← h6, ← h4];exact g1
   ·have hok : (Z08 Zm σ).f.isNone = false := Bool.eq_false_iff.2 hok;rw [hok] at HO3;have HO3 := lh HO3;have HOK := lh hok;clear hok;go_wp2_with fail
    refine HO3.out.mono ?_;rintro e w3 ⟨rfl, rfl⟩;clear HO3;go_wp2;go_ret;obtain ⟨h4, h5⟩ := HE.out;obtain ⟨h6, h7⟩ := HP.out;refine ⟨.mk w2.heap.size (.slice p acc.length cp) 6 ⟨#[]⟩ 0 kids, rfl, ?_, by rw [← h7, ← h5]; exact Q3.out, F3.out⟩;rw [← h5, HOK.out] at h6;rw [← h6, ← h4];exact N3.out
  rw [hf] at HO;by_cases hn : Zg Zm σ = true
  ·rw [hn] at HN;rw [if_neg (by simp [hn])] at hp;simp only [Option.some.injEq, Prod.mk.injEq] at hp;have HO := lh HO;have HN := lh HN;have HE := lh hp;clear hL hQ hF h8 hgF hf hn hp hx;go_wp2_with fail
   refine HO.out.mono ?_;rintro e w1 ⟨rfl, rfl⟩;go_wp2_with fail
   refine HN.out.mono ?_;rintro e w1 ⟨rfl, hb1⟩;have Q1 := lh (HQ.out.below hb1);have F1 := lh (HF.out.trans (RFr.below (rb := C.rb) hb1));replace HL := lh (HL.out.rfr HR.out (RFr.below (rb := C.rb) hb1))
   clear hb1;go_wp2_with fail
   refine (Z04 Q1.out Zm B HR.out (Nat.le_trans HB.out (F0.out.trans F1.out).size)).mono ?_;rintro e w2 ⟨rfl, h2, h3⟩;have F2 := lh ((F0.out.trans F1.out).trans h3);have L2 := lh (HL.out.rfr HR.out h3);have hal : Below w2.heap.size w2 (w2.alloc (.cells #[.int .i64 6, .string ⟨#[]⟩, .int .i64 0, .slice p acc.length cp] 44)) := (Below.refl _ _).alloc (Nat.le_refl _) _;have N3 := lh ((L2.out.pre F0.out.size).node (k := 6) (tx := ⟨#[]⟩) (n := 0) (Nat.le_trans HB.out F2.out.size) F2.out.size);have Q3 := lh (h2.below hal);have F3 := lh (F2.out.trans (RFr.below (rb := C.rb) hal))
   have L3 := lh (L2.out.rfr HR.out (RFr.below (rb := C.rb) hal));clear h2 h3 hal;have HO3 := Z1y Q3.out;by_cases hok : (Z08 Zm σ).f.isNone = true
   ·rw [hok] at HO3;have HO3 := lh HO3;have HOK := lh hok;clear hok;go_wp2_with fail
    refine HO3.out.mono ?_;rintro e w3 ⟨rfl, rfl⟩;clear HO3;go_wp2_with fail
    refine (Z51 w0 _ B _ kids acc L3.out HX.out).mono ?_;rintro e w4 ⟨rfl, hb4⟩;have N4 := N3.out.rfr HR.out (RFr.below (rb := C.rb) hb4);have F4 := F3.out.trans (RFr.below (rb := C.rb) hb4);have Q4 := lh (Q3.out.below hb4);have hblk := N4.at'.blkOf;simp only [ATree.b, ATree.v, ATree.kind, ATree.text, ATree.n] at hblk;have z1 : w4.cell? ⟨w2.heap.size, 1, none⟩ = some (.string ⟨#[]⟩) := by simp [World.cell?, hblk]
    have zz : w4.frozen? ⟨w2.heap.size, 1, none⟩ = false := by simp [World.frozen?, hblk]
    have FIN := lh (Got.text0 (t' := Z0w acc) HR.out HB.out N4 F4);clear hb4 N4 F4 hblk;go_wp2;go_ret;obtain ⟨h4, h5⟩ := HE.out;obtain ⟨h6, h7⟩ := HP.out;obtain ⟨g1, g2, g3⟩ := FIN.out;refine ⟨.mk w2.heap.size (.slice p acc.length cp) 6 (Z0w acc) 0 kids, rfl, ?_, by rw [← h7, ← h5]; exact Q4.out.keep fun k hk => g3 k (by have := HR.out; omega), g2⟩;rw [← h5, HOK.out] at h6;rw [← h6, ← h4];exact g1
   ·have hok : (Z08 Zm σ).f.isNone = false := Bool.eq_false_iff.2 hok;rw [hok] at HO3;have HO3 := lh HO3;have HOK := lh hok;clear hok;go_wp2_with fail
    refine HO3.out.mono ?_;rintro e w3 ⟨rfl, rfl⟩;clear HO3;go_wp2;go_ret;obtain ⟨h4, h5⟩ := HE.out;obtain ⟨h6, h7⟩ := HP.out;refine ⟨.mk w2.heap.size (.slice p acc.length cp) 6 ⟨#[]⟩ 0 kids, rfl, ?_, by rw [← h7, ← h5]; exact Q3.out, F3.out⟩;rw [← h5, HOK.out] at h6;rw [← h6, ← h4];exact N3.out
  have hn : Zg Zm σ = false := by simpa using hn
  rw [hn] at HN;rw [if_pos (by simp [hn, hf])] at hp;obtain ⟨x, σ3, hit, hrest⟩ := Zf hp;have IT := lh hit;have RE := lh hrest;have HO := lh HO;have HN := lh HN;have HK := lh (hL.len);have XX := lh (fun hk => Z79 hit hk);obtain ⟨i0, hi, hz0, hz1, hz2⟩ := info_parts Tryz.infoPtr;clear hL hQ hF h8 hgF hn hp hit hrest hx hf;go_wp2_with fail
  refine HO.out.mono ?_;rintro e w1 ⟨rfl, rfl⟩;go_wp2_with fail
  refine HN.out.mono ?_;rintro e w1 ⟨rfl, hb1⟩;have Q1 := lh (HQ.out.below hb1);have F1 := lh (HF.out.trans (RFr.below (rb := C.rb) hb1));have L1 := lh (HL.out.rfr HR.out (RFr.below (rb := C.rb) hb1));have hdd := HD.out;clear hb1 HO HN HQ HF HL;go_wp2_with fail
  refine (HS.out g (by have := HGF.out; omega) w1 C B (d + 1) _ _ _ Q1.out HR.out (Nat.le_trans HB.out (F0.out.trans F1.out).size) (by have := HGF.out; omega) IT.out).mono ?_;rintro e w2 ⟨a, rfl, h2, h3, h4⟩;have A2 := lh h2;have Q2 := lh h3;have F2 := lh h4;have L2 := lh (L1.out.rfr HR.out h4);clear h2 h3 h4 Q1
  go_wp2_with (at_builtin; go_must (refine wpList_append_lies _ rfl (.tmp 18) (.tmp 23) 42 rfl B 22 i0 _ 1 8 Tryz.underlying42 hi hz0 hz1 hz2 rfl (by decide) (.slice p acc.length cp) kids.length (kids.map ATree.ptr) rfl (L2.out.row.alloc _) ⟨w2.heap.size, 0, none⟩ 1 1 [a.ptr] rfl rfl (World.news_of_block (cs := #[a.ptr]) (t := 22) (fr := (0, 0)) (heap_alloc_new w2 _)) (by simp [ATree.ptr, Value.oneCell']) (by decide) (by have := HK.out; have := H8.out; unfold maxLen; omega) (by have := HK.out; have := H8.out; omega) (by simp; have := F0.out.size; have := F1.out.size; have := F2.out.size; have := HB.out; omega) (w2.heap.size + 1) (by simp) ?_); intro gg cap w4 hown2 hgrow2 hat2 hgl2)
  have hpush := L2.out.push (wA := w1) (fun y hy => (L1.out.ks.new y hy).2) (fun y hy => (L1.out.own y hy).2.1) A2.out F1.out.size F2.out.size ((Below.refl _ _).alloc (Nat.le_refl _) _) hgrow2 hown2 (by rcases hat2 with h | h; (exact .inl h); (exact .inr (by omega))) hgl2 (F1.out.trans F2.out);have hinv : g ≤ f ∧ BInv w0 C B d f l σ1 g (.slice (some ⟨gg, 0, none⟩) (kids.length + 1) cap) w4 :=
   ⟨by have := HGF.out; omega, acc ++ [x], kids ++ [a], σ3, RE.out, hpush.1, Q2.out.keep fun k hk => hpush.2.1 k (by have := Q2.out.rlt; omega) (fun e => by have h1 := (L2.out.own k e).1; have h2 := HR.out; have h3 := HB.out; have h4 := F0.out.size; omega), hpush.2.2.2, by have := H8.out; simp; omega, fun y hy => by
    rcases List.mem_append.1 hy with hy | hy;·exact HX.out y hy
    ·simp only [List.mem_singleton] at hy; subst hy; exact XX.out⟩
  exact ⟨⟨g, hinv⟩, by rw [← HG.out]; exact Nat.lt_succ_of_le (Z22 hinv)⟩
theorem Got.pushQ {w0 wA w w1 w2 : World} {rb B b g cap : Nat} {v : Value} {k n : Int} {t : ByteArray} {kids : List ATree} {a : ATree} {tn ta : Tree} (hr : rb < B) (hB0 : B ≤ w0.heap.size)
 (N : Got w0 B w (.mk b v k t n kids) tn) (hNA : ∀ x ∈ (ATree.mk b v k t n kids).blocks, x < wA.heap.size) (A : Got wA B w a ta) (F : RFr w0 w rb)
 (hB1 : Below w.heap.size w w1) (hg : w1.grownBy w2 v.ownBlock) (hown : w2.ownsRow B 22 1 (.slice (some ⟨g, 0, none⟩) (kids.length + 1) cap) (kids.length + 1) (kids.map ATree.ptr ++ [a.ptr]))
 (hat : v.ownBlock = some g ∨ w.heap.size ≤ g) (hgl : g < w2.heap.size) :
 Got w0 B (w2.setCell ⟨b, 3, none⟩ (.slice (some ⟨g, 0, none⟩) (kids.length + 1) cap)) (.mk b (.slice (some ⟨g, 0, none⟩) (kids.length + 1) cap) k t n (kids ++ [a])) (.mk k t n (Z10 kids ++ [ta])) ∧
  RFr w0 (w2.setCell ⟨b, 3, none⟩ (.slice (some ⟨g, 0, none⟩) (kids.length + 1) cap)) rb ∧ (∀ x, x < B → (w2.setCell ⟨b, 3, none⟩ (.slice (some ⟨g, 0, none⟩) (kids.length + 1) cap)).heap[x]? = w.heap[x]?) := by
 have hnd := N.nodup;simp only [ATree.blocks, List.nodup_cons, List.mem_append, List.nodup_append, Option.mem_toList, not_or] at hnd;obtain ⟨⟨hb1, hb2⟩, _, hk1, hk2⟩ := hnd;have hbw : b < w.heap.size := N.at'.lt;have hb0 : w0.heap.size ≤ b := (N.new b (by simp [ATree.blocks])).1;have hv0 : ∀ x, v.ownBlock = some x → w0.heap.size ≤ x ∧ x < wA.heap.size ∧ x < w.heap.size := fun x hx =>
  ⟨(N.new x (by simp [ATree.blocks, hx])).1, hNA x (by simp [ATree.blocks, hx]), (N.new x (by simp [ATree.blocks, hx])).2⟩
 have hbA : b < wA.heap.size := hNA b (by simp [ATree.blocks]);have hs1 : w.heap.size ≤ w2.heap.size := Nat.le_trans hB1.size hg.size;have hsz : (w2.setCell ⟨b, 3, none⟩ (.slice (some ⟨g, 0, none⟩) (kids.length + 1) cap)).heap.size = w2.heap.size := World.size_setCell ..;have far2 : ∀ x, x < w.heap.size → v.ownBlock ≠ some x → w2.heap[x]? = w.heap[x]? := fun x hx hn => (hg.block x (Nat.lt_of_lt_of_le hx hB1.size) (fun e => hn e.symm)).trans (hB1.block x hx)
 have far : ∀ x, x < w.heap.size → x ≠ b → v.ownBlock ≠ some x → (w2.setCell ⟨b, 3, none⟩ (.slice (some ⟨g, 0, none⟩) (kids.length + 1) cap)).heap[x]? = w.heap[x]? := fun x hx hxb hn => (Below.heap_setCell _ _ _ _ hxb).trans (far2 x hx hn);have hgb : g ≠ b := by
  rcases hat with h | h;·rintro rfl; exact hb1 h
  ·omega
 have hgA : ∀ x ∈ a.blocks, g ≠ x := fun x hx => by
  have h1 := A.new x hx;rcases hat with h | h;·have := hv0 g h; omega
  ·omega
 have hgk : ∀ x ∈ Zv kids, g ≠ x := fun x hx => by
  rcases hat with h | h;·exact hk2 g h x hx
  ·have := (N.new x (by simp [ATree.blocks, hx])).2; omega
 have hg0 : w0.heap.size ≤ g := by
  rcases hat with h | h;·exact (hv0 g h).1
  ·have := F.size; omega
 refine ⟨⟨?_, ?_, ?_, ?_⟩, ⟨?_, ?_, ?_, ?_, ?_⟩, ?_⟩
 ·simp only [ATree.tree, Z58, Z10];rw [A.tree]
 ·refine .mk ?_ N.at'.le ?_ fun x hx => ?_
  ·have h1 := (far2 b hbw hb1).trans N.at'.blkOf;exact Zn (o := 3) _ h1
  ·rw [List.length_append, List.map_append];exact Zl hown fun g' hg' => Below.heap_setCell _ _ _ _ (by simp only [Value.ownBlock, Option.some.injEq] at hg'; rw [← hg']; exact hgb)
  ·rcases List.mem_append.1 hx with hx | hx
   ·have hT := N.at'.kid (k := x) hx;refine hT.keepB fun y hy => ?_;have hyk : y ∈ Zv kids := by rw [Z0v]; exact List.mem_flatMap.2 ⟨x, hx, hy⟩
    exact far y (hT.has y hy).2 (fun e => hb2 (by rw [← e]; exact hyk)) (fun e => hk2 y e y hyk rfl)
   ·simp only [List.mem_singleton] at hx;subst hx;refine A.at'.keepB fun y hy => ?_;have h1 := A.new y hy;exact far y h1.2 (by omega) (fun e => by have := hv0 y e; omega)
 ·simp only [ATree.blocks, Value.ownBlock, Z1e, Zv, List.append_nil, List.nodup_cons, List.mem_append, List.nodup_append, Option.toList, List.mem_cons, List.not_mem_nil, or_false, not_or, List.nodup_nil, not_false_eq_true, true_and];refine ⟨⟨fun e => hgb e.symm, hb2, fun hm => by have := A.new b hm; omega⟩, ⟨hk1, A.nodup, fun x hx y hy e => by have h1 := hNA x (by simp [ATree.blocks, hx]); have h2 := A.new y hy; omega⟩, ?_⟩;rintro x rfl y hy;rcases hy with hy | hy;·exact hgk y hy
  ·exact hgA y hy
 ·intro x hx;rw [hsz];simp only [ATree.blocks, Value.ownBlock, Z1e, Zv, List.append_nil, List.mem_cons, List.mem_append, Option.toList, List.not_mem_nil, or_false] at hx;rcases hx with rfl | rfl | hx | hx;·exact ⟨hb0, by omega⟩
  ·exact ⟨hg0, hgl⟩
  ·have := N.new x (by simp [ATree.blocks, hx]); omega
  ·have := A.new x hx; omega
 ·exact (hg.os.trans hB1.os).trans F.os
 ·exact (hg.tape.trans hB1.tape).trans F.tape
 ·exact (hg.output.trans hB1.output).trans F.output
 ·rw [hsz]; have := F.size; omega
 ·intro x hx hn;have := F.size;exact (far x (by omega) (by omega) (fun e => by have := hv0 x e; omega)).trans (F.block x hx hn)
 ·have := F.size;exact fun x hx => far x (by omega) (by omega) (fun e => by have := hv0 x e; omega)
theorem Got.cells {w0 w : World} {B b : Nat} {v : Value} {k n : Int} {tx : ByteArray} {kids : List ATree} {t : Tree} (N : Got w0 B w (.mk b v k tx n kids) t) :
 w.cell? ⟨b, 0, none⟩ = some (.int .i64 k) ∧ w.cell? ⟨b, 1, none⟩ = some (.string tx) ∧ w.cell? ⟨b, 3, none⟩ = some v ∧ (∀ j, w.frozen? ⟨b, j, none⟩ = false) ∧ b < w.heap.size := by
 have hb := N.at'.blkOf;simp only [ATree.b, ATree.v, ATree.kind, ATree.text, ATree.n] at hb;exact ⟨by simp [World.cell?, hb], by simp [World.cell?, hb], by simp [World.cell?, hb], fun j => by simp [World.frozen?, hb], (Array.getElem?_eq_some_iff.1 hb).1⟩
theorem Got.giveKids {w w1 w2 : World} {rb B b : Nat} {v : Value} {k n : Int} {tx : ByteArray} {ks0 kids : List ATree} {l0 ts : List Tree} (hr : rb < B) (hB : B ≤ w.heap.size) (G : Got w B w1 (.mk b v k tx n ks0) (.mk k tx n l0)) (F1 : RFr w w1 rb) (F12 : RFr w1 w2 rb) (K : KidsAt w1 B w2 kids ts) (hl : kids.length ≤ 1000)
 (row : Array Value) (hrow : row = (kids.map ATree.ptr).toArray) (m : Nat) (hm : m = kids.length) :
 ((w2.alloc (.cells row 22)).cell? ⟨b, 3, none⟩ = some v ∧ (w2.alloc (.cells row 22)).frozen? ⟨b, 3, none⟩ = false) ∧
 Got w B ((w2.alloc (.cells row 22)).setCell ⟨b, 3, none⟩ (.slice (some ⟨w2.heap.size, 0, none⟩) m m)) (.mk b (.slice (some ⟨w2.heap.size, 0, none⟩) m m) k tx n kids) (.mk k tx n ts) ∧
 RFr w ((w2.alloc (.cells row 22)).setCell ⟨b, 3, none⟩ (.slice (some ⟨w2.heap.size, 0, none⟩) m m)) rb ∧
 (∀ x, x < B → ((w2.alloc (.cells row 22)).setCell ⟨b, 3, none⟩ (.slice (some ⟨w2.heap.size, 0, none⟩) m m)).heap[x]? = w2.heap[x]?) := by
 subst hrow hm;have hal := (Below.refl w2.heap.size w2).alloc (Nat.le_refl _) (.cells (kids.map ATree.ptr).toArray 22);have hF2 := F1.trans F12;have hFF := hF2.trans (RFr.below (rb := rb) hal);have G2 := (G.rfr hr F12).rfr hr (RFr.below (rb := rb) hal);obtain ⟨_, _, y3, z3, _⟩ := G2.cells;have hL := K.lit (Nat.le_trans hB hF2.size) F12.size hl;have hb1 : b < w1.heap.size := (G.new b (by simp [ATree.blocks])).2;have hap := hL.apart hb1;obtain ⟨e1, e2, e3⟩ := Got.kids0 hr hB G2.at' (G.new b (by simp [ATree.blocks])).1 (hL.pre (w0 := w) F1.size) hap.1 hap.2 hFF
 refine ⟨⟨y3, z3 3⟩, e1, e2, fun x hx => (e3 x hx).trans (hal.block x ?_)⟩;have := hF2.size; omega
theorem Got.pushT {w0 wA w w1 w2 : World} {rb B b g cap : Nat} {v : Value} {k n : Int} {t : ByteArray} {kids : List ATree} {a : ATree} {ts : List Tree} {ta : Tree} (hr : rb < B) (hB0 : B ≤ w0.heap.size)
 (N : Got w0 B w (.mk b v k t n kids) (.mk k t n ts)) (hNA : ∀ x ∈ (ATree.mk b v k t n kids).blocks, x < wA.heap.size) (A : Got wA B w a ta) (F : RFr w0 w rb)
 (hB1 : Below w.heap.size w w1) (hg : w1.grownBy w2 v.ownBlock) (hown : w2.ownsRow B 22 1 (.slice (some ⟨g, 0, none⟩) (kids.length + 1) cap) (kids.length + 1) (kids.map ATree.ptr ++ [a.ptr]))
 (hat : v.ownBlock = some g ∨ w.heap.size ≤ g) (hgl : g < w2.heap.size) :
 Got w0 B (w2.setCell ⟨b, 3, none⟩ (.slice (some ⟨g, 0, none⟩) (kids.length + 1) cap)) (.mk b (.slice (some ⟨g, 0, none⟩) (kids.length + 1) cap) k t n (kids ++ [a])) (.mk k t n (ts ++ [ta])) ∧
  RFr w0 (w2.setCell ⟨b, 3, none⟩ (.slice (some ⟨g, 0, none⟩) (kids.length + 1) cap)) rb ∧ (∀ x, x < B → (w2.setCell ⟨b, 3, none⟩ (.slice (some ⟨g, 0, none⟩) (kids.length + 1) cap)).heap[x]? = w.heap[x]?) := by
 have e : Z10 kids = ts := by
  have := N.tree;simp only [ATree.tree, Tree.mk.injEq, true_and] at this;exact this
 subst e;exact Got.pushQ hr hB0 N hNA A F hB1 hg hown hat hgl
end Go.Proofs.YtgmnfgljkocnpaaGreatDoor
