/- The document's parser: the closures of list; function. Package tree: block. Package tree: declared. Package tree: assign. Package tree: end. -/
import Derived.Test.YtgmnfgljkocnpaaGreatDoorJ01
import Derived.Test.YtgmnfgljkocnpaaGreatDoorJ15
import Derived.Test.YtgmnfgljkocnpaaGreatDoorJ11
import Derived.Test.YtgmnfgljkocnpaaGreatDoorJ09
namespace Go.Proofs.YtgmnfgljkocnpaaGreatDoor
open Go Go.RowKit
set_option maxRecDepth 100000
set_option maxHeartbeats 20000000
set_option linter.unusedVariables false
theorem Zjb (args : Array Value) (w : World) : (callFunc 77 args).run Tryz.prog w = .ok (.enter 77 args) w := by go_simp
theorem Zjd (args : Array Value) (w : World) : (callFunc 108 args).run Tryz.prog w = .ok (.enter 108 args) w := by go_simp
theorem Zjc (args : Array Value) (w : World) : (callFunc 114 args).run Tryz.prog w = .ok (.enter 114 args) w := by go_simp
theorem Zj7 (w : World) (C : QC) (B bx : Nat) (σ : RS) (hQ : QS w C σ) (hr : C.rb < B) (hB : B ≤ w.heap.size) (hc : w.cell? ⟨bx, 0, none⟩ = some (.pointer (some ⟨C.rb, 0, none⟩))) :
 Calls Tryz.prog 77 #[.pointer (some ⟨bx, 0, none⟩)] w (Z1h w C B (.mk 23 (Zj σ).1 0 []) (Zj σ).2) := by
 have HI := lh (Z2e hQ B hr hB);have HB := lh hB;clear hQ hB hr;go_enter Tryz.func77, Tryz.ntmps77
 go_wp2_with fail
 refine HI.out.mono ?_;rintro e w1 ⟨rfl, h1, h2⟩;have H1 := lh h1;have H2 := lh h2;clear h1 h2;go_wp2;go_ret;exact ⟨_, rfl, Got.leaf HB.out H2.out, H1.out.below ((Below.refl _ _).alloc (Nat.le_refl _) _), H2.out.trans (RFr.below ((Below.refl _ _).alloc (Nat.le_refl _) _))⟩
theorem Zjx (f : Nat) (hV : Z0y 57 qd .value f) (w : World) (C : QC) (B bx dx d : Nat) (σ σ' : RS) (t : Tree) (hd : d + (f + 1) ≤ 1000000000000) (hp : refF f .value (d + 1) σ = some (t, σ')) (hQ : QS w C σ) (hr : C.rb < B) (hB : B ≤ w.heap.size) (hc : w.cell? ⟨bx, 0, none⟩ = some (.pointer (some ⟨C.rb, 0, none⟩))) (hc2 : w.cell? ⟨dx, 0, none⟩ = some (.int .i64 d)) :
 Calls Tryz.prog 108 #[.pointer (some ⟨bx, 0, none⟩), .pointer (some ⟨dx, 0, none⟩)] w (Z1h w C B t σ') := by
 have HI := lh (hV w C B (d + 1) σ t σ' hQ hr hB (by omega) hp);clear hQ hB hr hp hV;go_enter Tryz.func108, Tryz.ntmps108
 go_wp2_with fail
 refine HI.out.mono ?_;rintro e w1 ⟨a, rfl, h1⟩;have H1 := lh h1;clear h1;go_wp2;go_ret;exact ⟨a, rfl, H1.out⟩
theorem Zjl (f : Nat) (hV : Z0y 57 qd .value f) (w : World) (C : QC) (B bx dx d : Nat) (σ σ' : RS) (t : Tree) (hd : d + (f + 1) ≤ 1000000000000) (hp : refF f .value (d + 1) (Z08 Z2j (Zj σ).2) = some (t, σ')) (hQ : QS w C σ) (hr : C.rb < B) (hB : B ≤ w.heap.size) (hc : w.cell? ⟨bx, 0, none⟩ = some (.pointer (some ⟨C.rb, 0, none⟩))) (hc2 : w.cell? ⟨dx, 0, none⟩ = some (.int .i64 d)) (hb : bx < w.heap.size) (hb2 : dx < w.heap.size) (hn : bx ≠ C.rb) (hn2 : dx ≠ C.rb) :
 Calls Tryz.prog 114 #[.pointer (some ⟨bx, 0, none⟩), .pointer (some ⟨dx, 0, none⟩)] w (Z1h w C B (.mk 39 (Zj σ).1 0 [t]) σ') := by
 have HI := lh (Z2e hQ B hr hB);have HV := lh hV;have HP := lh hp;have HR := lh hr;have HB := lh hB;have HD := lh hd;clear hQ hB hr hp hV hd;go_enter Tryz.func114, Tryz.ntmps114
 go_wp2_with fail
 refine HI.out.mono ?_;rintro e w1 ⟨rfl, h1, h2⟩;have q1 : w1.cell? ⟨bx, 0, none⟩ = some (.pointer (some ⟨C.rb, 0, none⟩)) := (h2.cell hb hn).trans hc;have q2 : w1.cell? ⟨dx, 0, none⟩ = some (.int .i64 d) := (h2.cell hb2 hn2).trans hc2;have Q1 := lh h1;have F1 := lh h2;clear h1 h2;go_wp2_with fail
 refine (Z04 Q1.out Z2j B HR.out (Nat.le_trans HB.out F1.out.size)).mono ?_;rintro e w2 ⟨rfl, h1, h2⟩;have r1 : w2.cell? ⟨bx, 0, none⟩ = some (.pointer (some ⟨C.rb, 0, none⟩)) := (h2.cell (Nat.lt_of_lt_of_le hb F1.out.size) hn).trans q1;have r2 : w2.cell? ⟨dx, 0, none⟩ = some (.int .i64 d) := (h2.cell (Nat.lt_of_lt_of_le hb2 F1.out.size) hn2).trans q2;have Q2 := lh h1;have F2 := lh (F1.out.trans h2);have hd2 := HD.out;clear h1 h2 q1 q2;go_wp2_with fail
 refine (HV.out w2 C B (d + 1) _ _ _ Q2.out HR.out (Nat.le_trans HB.out F2.out.size) (by omega) HP.out).mono ?_;rintro e w3 ⟨a, rfl, h1, h2, h3⟩;have G3 := lh h1;have Q3 := lh h2;have F3 := lh h3;clear h1 h2 h3 r1 r2;go_wp2;go_ret;have hal := (Below.refl w3.heap.size w3).alloc (Nat.le_refl _) (.cells #[.pointer (some ⟨a.b, 0, none⟩)] 22)
 refine ⟨_, ?_, Got.one (k := 39) (t := (Zj σ).1) HB.out (F2.out.trans F3.out) (G3.out.pre F2.out), (Q3.out.below hal).below ((Below.refl _ _).alloc (Nat.le_refl _) _), ((F2.out.trans F3.out).trans (RFr.below hal)).trans (RFr.below ((Below.refl _ _).alloc (Nat.le_refl _) _))⟩;simp [ATree.b]
def fArg (kind : Int) (text : ByteArray) (rb d : Nat) : Array Value := #[.pointer (some ⟨rb, 0, none⟩), .int .i64 kind, .string text, .int .i64 d]
def Z7x (b : Bool) (rb d : Nat) : Array Value := #[.pointer (some ⟨rb, 0, none⟩), .int .i64 d, .bool b]
theorem Zjg (f : Nat) (kind : Int) (text : ByteArray) (hBr : Z0y 50 (Z7x true) (.braces true) f) : Z0y 53 (fArg kind text) (.func kind text) (f + 1) := by
 intro w C B d σ t σ' hQ hr hB hd hp;rw [refF] at hp;obtain ⟨l, σ1, hl, hp⟩ := Zf hp;obtain ⟨b, σ2, hb, hp⟩ := Zf hp;obtain ⟨rfl, rfl⟩ : Tree.mk kind text 0 [.mk 40 ByteArray.empty 0 l.kids, b] = t ∧ σ2 = σ' := by simpa using hp
 have HR := lh hr;have HB := lh hB;have HD := lh hd;have HL := lh hl;have HBR := lh hBr;have HBB := lh hb;have hrw := hQ.rlt;have HQ := lh hQ;obtain ⟨bx, hbx⟩ : ∃ b, b = w.heap.size := ⟨_, rfl⟩
 have hne : bx ≠ C.rb := by omega
 have hal : Below w.heap.size w (w.alloc (.cells #[.pointer (some ⟨C.rb, 0, none⟩)] 54)) := (Below.refl _ _).alloc (Nat.le_refl _) _;have q0 : (w.alloc (.cells #[.pointer (some ⟨C.rb, 0, none⟩)] 54)).cell? ⟨bx, 0, none⟩ = some (.pointer (some ⟨C.rb, 0, none⟩)) := by rw [hbx]; simp only [World.cell?, heap_alloc_new]; rfl
 have hbz : bx < (w.alloc (.cells #[.pointer (some ⟨C.rb, 0, none⟩)] 54)).heap.size := by rw [hbx]; simp
 have Q0 := lh (hQ.below hal);have F0 := lh (RFr.below (rb := C.rb) hal);clear hQ hB hr hp hd hl hBr hb hal hrw;unfold fArg;go_enter Tryz.func53, Tryz.ntmps53
 go_wp2_with fail
 refine (Z04 Q0.out Z05 B HR.out (Nat.le_trans HB.out F0.out.size)).mono ?_;rintro e w1 ⟨rfl, h1, h2⟩;rw [← hbx];have q1 := (h2.cell hbz hne).trans q0;have hb1 : bx < w1.heap.size := Nat.lt_of_lt_of_le hbz h2.size;have Q1 := lh h1;have F1 := lh (F0.out.trans h2);have HBX := lh hbx;clear h1 h2 q0 Q0 F0 hbz hbx;go_wp2_with fail
 refine (Zfn f d 77 #[.pointer (some ⟨bx, 0, none⟩)] Z06 .params (fun g σ => some (.mk 23 (Zj σ).1 0 [], (Zj σ).2)) Zjb (fun g acc σ => by rw [refF]; rfl) w1 C B HR.out (Nat.le_trans HB.out F1.out.size) (fun g hg w2 σ x σ' hF hQ hi => ?_) _ Q1.out l σ1 HL.out).mono ?_
 ·obtain ⟨rfl, rfl⟩ : Tree.mk 23 (Zj σ).1 0 [] = x ∧ (Zj σ).2 = σ' := by simpa using hi
  exact Zj7 w2 C B bx σ hQ HR.out (Nat.le_trans HB.out (F1.out.trans hF).size) ((hF.cell hb1 hne).trans q1)
 rintro e w2 ⟨v, kids, rfl, h1, h2, h3, _⟩;obtain ⟨p, cp, rfl⟩ := h1.slice;have q2 := (h3.cell hb1 hne).trans q1;have hb2 : bx < w2.heap.size := Nat.lt_of_lt_of_le hb1 h3.size;have N2 := lh ((h1.pre (w0 := w) F1.out.size).node (k := 40) (tx := ⟨#[]⟩) (n := 0) (Nat.le_trans HB.out (F1.out.trans h3).size) (F1.out.trans h3).size);have hal : Below w2.heap.size w2 (w2.alloc (.cells #[.int .i64 40, .string ⟨#[]⟩, .int .i64 0, .slice p l.kids.length cp] 44)) := (Below.refl _ _).alloc (Nat.le_refl _) _;have Q2 := lh (h2.below hal);have F2 := lh ((F1.out.trans h3).trans (RFr.below hal))
 have q3 : (w2.alloc (.cells #[.int .i64 40, .string ⟨#[]⟩, .int .i64 0, .slice p l.kids.length cp] 44)).cell? ⟨bx, 0, none⟩ = some (.pointer (some ⟨C.rb, 0, none⟩)) := (Z7 hb2).trans q2;clear h1 h2 h3 q1 hb1 hal;go_wp2_with fail
 refine (HBR.out _ C B d _ _ _ Q2.out HR.out (Nat.le_trans HB.out F2.out.size) (by have := HD.out; omega) HBB.out).mono ?_;rintro e w4 ⟨a, rfl, h1, h2, h3⟩;have G4 := lh h1;have Q4 := lh h2;have F4 := lh h3;clear h1 h2 h3 q2 q3;go_wp2;go_ret;have hal := (Below.refl w4.heap.size w4).alloc (Nat.le_refl _) (.cells #[.pointer (some ⟨w2.heap.size, 0, none⟩), .pointer (some ⟨a.b, 0, none⟩)] 22)
 refine ⟨_, ?_, Got.two (k := kind) (t := text) HB.out (F2.out.trans F4.out) (N2.out.rfr HR.out F4.out) (fun x hx => (N2.out.new x hx).2) F2.out.size G4.out, (Q4.out.below hal).below ((Below.refl _ _).alloc (Nat.le_refl _) _), ((F2.out.trans F4.out).trans (RFr.below hal)).trans (RFr.below ((Below.refl _ _).alloc (Nat.le_refl _) _))⟩;simp [ATree.b]
theorem Ze8 : ∀ {f d : Nat} {k : Int} {acc : List Tree} {us ts : List Tok} {t : Tree}, Z4 f (.stmts k acc) d us = some (.ok (t, ts)) → ∃ tx l, t = .mk k tx 0 l := by
 intro f;induction f with
 | zero => intro d k acc us ts t h; cases h
 | succ f ih =>
   intro d k acc us ts t h;rw [Z4] at h;generalize (if k = 1 then decide ((hdT us).kind = 6) else isT Zm us) = c at h;cases c
   ·obtain ⟨x, vs, _, h⟩ := Z15 h;exact ih h
   ·obtain ⟨rfl, _⟩ := Z35 h; exact ⟨_, _, rfl⟩
theorem Zdj (f : Nat) (body : Bool) (hS : Says 30 (fun rb => #[.pointer (some ⟨rb, 0, none⟩), .int .i64 6, .string Zm]) (.stmts 6 []) f) :
 Says 84 (fun rb => #[.pointer (some ⟨rb, 0, none⟩), .bool body]) (.block body) (f + 1) := by
 intro w rb B d ts r hP hp;have hw : Z0u Zb ts (fun ts => Zx (Z4 f (.stmts 6 []) d ts) fun x ts => Z0u Zm ts fun ts => okT (if body then x else .mk 6 ByteArray.empty 0 x.kids) ts) = some r := hp;have HP := lh hP;simp only;rcases Z1r hw with ⟨hs, h1⟩ | ⟨hs, rfl⟩
 ·have HC := lh (Z1t w rb ts d Zb hP.rd hs);have H1 := lh h1;clear hP hp hw hs h1;go_enter Tryz.func84, Tryz.ntmps84
  go_wp2_with fail
  refine HC.out.mono ?_;rintro e w1 ⟨rfl, hR1, hF1⟩;have P1 := lh (HP.out.tail hR1 hF1);have F1 := lh hF1;clear hR1 hF1 HC;rcases Zr H1.out with ⟨⟨c, p⟩, hv, rfl⟩ | ⟨t, ts2, hv, h2⟩
  ·have HV := hS w1 rb B d _ _ P1.out hv;simp only at HV;unfold Zm at HV;have HV := lh HV;clear hv;go_wp2_with fail
   refine HV.out.mono ?_;rintro e w2 ⟨⟨b, rfl, h1, h2⟩, hF⟩;exact ⟨rfl, Z07.pre F1.out (r := .error (c, p)) ⟨⟨b, rfl, h1, h2⟩, hF⟩⟩
  ·have HV := hS w1 rb B d _ _ P1.out hv;simp only at HV;unfold Zm at HV;have HV := lh HV;have hl := Z0t hv;obtain ⟨tx, l, rfl⟩ := Ze8 hv;have H2 := lh h2;clear hv h2;go_wp2_with fail
   refine HV.out.mono ?_;rintro e w2 ⟨a, rfl, hG, hR2, hF2⟩;obtain ⟨b, v, k, tx', n, kids⟩ := a;have htr := hG.tree;simp only [ATree.tree, Tree.mk.injEq] at htr;obtain ⟨rfl, rfl, rfl, rfl⟩ := htr;have G2 := hG.pre F1.out;have F2 := F1.out.trans hF2;have hblk := G2.at'.blkOf;simp only [ATree.b, ATree.v, ATree.kind, ATree.text, ATree.n] at hblk ⊢;have c1 : w2.cell? ⟨b, 1, none⟩ = some (.string tx') := by simp [World.cell?, hblk]
   have z1 : w2.frozen? ⟨b, 1, none⟩ = false := by simp [World.frozen?, hblk]
   have P2 := P1.out.next hR2 hF2 hl;have H3 := lh (Got.text (t' := ByteArray.empty) HP.out.lt HP.out.le G2 F2 hR2);have P2' : Pre (w2.setCell ⟨b, 1, none⟩ (.string ByteArray.empty)) rb B d ts2 := ⟨H3.out.2.2, P2.deep, P2.lt, by rw [World.size_setCell]; exact P2.le, P2.few⟩
   have P2 := lh P2;have P2' := lh P2';have F2 := lh F2;have G2 := lh G2;clear hG hR2 hF2 HV hl hblk;rcases Z1r H2.out with ⟨hs, h3⟩ | ⟨hs, rfl⟩
   ·have h3 := Option.some.inj h3;have HR := lh h3.symm;cases body
    ·have HC := Z1t _ rb ts2 d Zm P2'.out.rd hs;unfold Zm at HC;have HC := lh HC;clear hs h3;go_wp2_with fail
     refine HC.out.mono ?_;rintro e w3 ⟨rfl, hR3, hF3⟩;have R3 := lh hR3;have F3 := lh hF3;clear hR3 hF3;go_wp2;go_ret;rw [HR.out];exact ⟨_, rfl, H3.out.1.rfr HP.out.lt F3.out, R3.out, H3.out.2.1.trans F3.out⟩
    ·have HC := Z1t _ rb ts2 d Zm P2.out.rd hs;unfold Zm at HC;have HC := lh HC;clear hs h3;go_wp2_with fail
     refine HC.out.mono ?_;rintro e w3 ⟨rfl, hR3, hF3⟩;have R3 := lh hR3;have F3 := lh hF3;clear hR3 hF3;go_wp2;go_ret;rw [HR.out];exact ⟨_, rfl, G2.out.rfr HP.out.lt F3.out, R3.out, F2.out.trans F3.out⟩
   ·cases body
    ·have HC := Z33 _ rb ts2 d Zm P2'.out.rd hs;unfold Zm at HC;have HC := lh HC;clear hs;go_wp2_with fail
     refine HC.out.mono ?_;rintro e w3 ⟨⟨b, rfl, h1, h2⟩, hB⟩;exact ⟨rfl, Z07.err H3.out.2.1 ⟨b, rfl, h1, h2⟩ hB⟩
    ·have HC := Z33 _ rb ts2 d Zm P2.out.rd hs;unfold Zm at HC;have HC := lh HC;clear hs;go_wp2_with fail
     refine HC.out.mono ?_;rintro e w3 ⟨⟨b, rfl, h1, h2⟩, hB⟩;exact ⟨rfl, Z07.err F2.out ⟨b, rfl, h1, h2⟩ hB⟩
 ·have HC := lh (Z33 w rb ts d Zb hP.rd hs);clear hP hp hw hs;go_enter Tryz.func84, Tryz.ntmps84
  go_wp2_with fail
  refine HC.out.mono ?_;rintro e w3 ⟨⟨b, rfl, h1, h2⟩, hB⟩;exact ⟨rfl, Z07.err (RFr.refl _ _) ⟨b, rfl, h1, h2⟩ hB⟩
theorem Zft (f : Nat) (kind : Int) (must : Bool) (hV : Says 91 rArg .value f) :
 Says 87 (fun rb => #[.pointer (some ⟨rb, 0, none⟩), .int .i64 kind, .bool must]) (.decl kind must) (f + 1) := by
 intro w rb B d ts r hP hp;have hw : Z3b ts (fun s ts => if must && !isT s_eq ts then Z2m 3 ts else if isT s_eq ts then Zx (Z4 f .value d ts.tail) fun x ts => okT (.mk kind s 0 [x]) ts else okT (.mk kind s 0 []) ts) = some r := hp;have HP := lh hP;simp only;rcases Z3i hw with ⟨hk, h1⟩ | ⟨hk, rfl⟩
 ·have HC := lh (Z3s w rb ts d hP.rd hk);obtain ⟨s, hs⟩ : ∃ s, s = (hdT ts).text := ⟨_, rfl⟩
  rw [← hs] at HC h1;have H1 := lh h1;clear hP hp hw hk h1 hs;go_enter Tryz.func87, Tryz.ntmps87
  go_wp2_with fail
  refine HC.out.mono ?_;rintro e w1 ⟨rfl, hR1, hF1⟩;have P1 := HP.out.tail hR1 hF1;have HN := lh (Z0g w1 rb kind s none 0 0);have hal : Below w1.heap.size w1 (w1.alloc (.cells #[.int .i64 kind, .string s, .int .i64 0, .slice none 0 0] 44)) := (Below.refl _ _).alloc (Nat.le_refl _) _;obtain ⟨nb, hnb⟩ : ∃ b, b = w1.heap.size := ⟨_, rfl⟩
  have G2 := Got.leaf (k := kind) (t := s) (n := 0) HP.out.le hF1;have P2 := P1.below hal;have F2 := hF1.trans (RFr.below (rb := rb) hal);rw [← hnb] at G2 HN;go_wp2_with fail
  refine HN.out.mono ?_;rintro e w2 ⟨rfl, hw2⟩;rw [← hw2] at G2 P2 F2;have HNB := lh hnb;have G2 := lh G2;have P2 := lh P2;have F2 := lh F2;clear hR1 hF1 HC P1 HN hal hnb hw2;obtain ⟨us, hus⟩ : ∃ us, us = ts.tail := ⟨_, rfl⟩
  rw [← hus] at P2 H1;have HUS := lh hus;clear hus;by_cases he : isT s_eq us = true
  ·have h1 := H1.out;rw [if_neg (by rw [he]; simp), if_pos he] at h1;have HI := Z40 w2 rb us d s_eq P2.out.rd;rw [he] at HI;unfold s_eq at HI;have HI := lh HI;have HE := lh he;have H2 := lh h1;clear h1 he;have key : ∀ w3, Below w2.heap.size w2 w3 → Hid (Pre w3 rb B d us ∧ Got w B w3 (.mk nb (.slice none 0 0) kind s 0 []) (.mk kind s 0 []) ∧ RFr w w3 rb) := fun w3 hB => lh ⟨P2.out.below hB, G2.out.rfr HP.out.lt (RFr.below (rb := rb) hB), F2.out.trans (RFr.below hB)⟩;have KEY := lh key;clear key;cases must
   ·have PX := lh P2.out;have GX := lh G2.out;have FX := lh F2.out;clear KEY HI;have HX := HP.out.lt;have hlt := HP.out.lt;have HT := Z0r w2 rb us d s_eq PX.out.rd HE.out;unfold s_eq at HT;have HT := lh HT;go_wp2_with fail
    refine HT.out.mono ?_;rintro e w5 ⟨rfl, hR5, hF5⟩;have P5 := PX.out.tail hR5 hF5;have G5 := GX.out.rfr hlt hF5;have F5 := FX.out.trans hF5;have hblk5 := G5.at'.blkOf;simp only [ATree.b, ATree.v, ATree.kind, ATree.text, ATree.n] at hblk5;have n3 : w5.cell? ⟨nb, 3, none⟩ = some (.slice none 0 0) := by simp [World.cell?, hblk5]
    have P5 := lh P5;have G5 := lh G5;have F5 := lh F5;clear hR5 hF5 hblk5 HT PX GX FX;go_wp2_with fail
    refine Z0 [(true, 0), (true, 1), (true, 2), (true, 3), (true, 4), (true, 5), (false, 6), (false, 7), (false, 8)] [9, 10, 11] (fun W => W.cell? ⟨nb, 3, none⟩ = some (.slice none 0 0)) (by kernel_rfl) (by kernel_rfl) (fun _ _ d _ _ h => by cases d <;> exact h) n3 (fun hS0 => ?_);simp only [Za, List.filterMap_cons, List.filterMap_nil, List.getElem?_toArray, List.getElem?_cons_zero, List.getElem?_cons_succ, Option.map_some]
    iterate 6
     first
      | (refine Z2 ?_ (by rfl) (fun w' hS' => ?_) ?_; rotate_left; (have s0 := hS'; go_simp; first | done | with_reducible rfl); simp only [Act.put, zA, zB, zC])
      | (refine Z1 (by rfl) ?_; simp only [Act.put, zA, zB, zC])
    refine Z6 (fun K hK => ?_);go_simp
    have P6 : Pre w5.drew rb B d us.tail := P5.out.below (Below.refl _ _).drew;rcases Zr H2.out with ⟨⟨c, p⟩, hv, rfl⟩ | ⟨t, vs, hv, hq3⟩
    ·refine (hV w5.drew rb B d _ _ P6 hv).mono ?_;rintro e w3 ⟨⟨b, rfl, h1, h2⟩, hF3⟩;exact ⟨rfl, Z07.pre F5.out.drew (r := .error (c, p)) ⟨⟨b, rfl, h1, h2⟩, hF3⟩⟩
    ·obtain rfl := Option.some.inj hq3;refine (hV w5.drew rb B d _ _ P6 hv).mono ?_;rintro e w3 ⟨a, rfl, hA, hR3, hF3⟩;have hF53 : RFr w5 w3 rb := (RFr.refl w5 rb).drew.trans hF3;have hN3 := G5.out.rfr hlt hF53;have hblk := hN3.at'.blkOf;simp only [ATree.b, ATree.v, ATree.kind, ATree.text, ATree.n] at hblk;have m3 : w3.cell? ⟨nb, 3, none⟩ = some (.slice none 0 0) := by simp [World.cell?, hblk]
     have mz : w3.frozen? ⟨nb, 3, none⟩ = false := by simp [World.frozen?, hblk]
     have hnb3 : nb < w3.heap.size := (Array.getElem?_eq_some_iff.1 hblk).1;have hk4 : ([] : List ATree).length ≤ 4000 := by simp
     have NE : Hid ((Value.slice none 0 0).ownBlock ≠ some nb) := lh (by simp [Value.ownBlock]);have N3 := lh hN3;have A3 := lh hA;have R3 := lh hR3;have F3 := lh (F5.out.trans hF53);refine hK _ _ m3 ?_;obtain ⟨i0, hi, hz0, hz1, hz2⟩ := info_parts Tryz.infoPtr;clear hK K hA hR3 hF3 hF53 hN3 hblk hv hq3 n3;refine Z6 (fun K hK => ?_);go_simp
     refine hK _ _ ((Z7 hnb3).trans m3) ?_;clear hK K;refine Z6 (fun K hK => ?_)
     refine step_append_lies _ (by rfl) (.tmp 27) (.tmp 30) 42 (by rfl) B 22 i0 _ 1 8 Tryz.underlying42 hi hz0 hz1 hz2 rfl (by decide) (.slice none 0 0) (([] : List ATree)).length ((([] : List ATree)).map ATree.ptr) (by rfl) (N3.out.at'.rowOf.alloc _) ⟨w3.heap.size, 0, none⟩ 1 1 [a.ptr] (by rfl) rfl (World.news_of_block (cs := #[a.ptr]) (t := 22) (fr := (0, 0)) (heap_alloc_new w3 _)) (by simp [ATree.ptr, Value.oneCell']) (by decide) (by unfold maxLen; omega) (by omega) (by simp; have := F3.out.size; have := HP.out.le; omega) (w3.heap.size + 1) (by simp) ?_;intro gg cap w4 hown4 hgrow4 hat4 hlt4
     have m4 : w4.cell? ⟨nb, 3, none⟩ = some (.slice none 0 0) := (hgrow4.cell_far ⟨nb, 3, none⟩ (by simp; omega) (fun e => NE.out e.symm)).trans ((Z7 hnb3).trans m3);have mz4 : w4.frozen? ⟨nb, 3, none⟩ = false := (hgrow4.frozen_far ⟨nb, 3, none⟩ (by simp; omega) (fun e => NE.out e.symm)).trans ((Zu hnb3).trans mz);refine hK _ _ m4 ?_;clear hK K;simp only [Act.put, zA, zB, zC]
     have hfin := Got.push hlt HP.out.le N3.out (wA := w5.drew) (fun x hx => (G5.out.new x hx).2) A3.out F3.out R3.out ((Below.refl _ _).alloc (Nat.le_refl _) _) hgrow4 hown4 (by rcases hat4 with h | h; (exact .inl h); (exact .inr (by omega))) hlt4;have FIN := lh hfin;clear hgrow4 hown4 hat4 hlt4 hfin;refine Z5 ?_;go_wp2;go_ret;exact ⟨_, rfl, FIN.out.1, FIN.out.2.2, FIN.out.2.1⟩
   ·go_wp2_with fail
    refine HI.out.mono ?_;rintro e wq ⟨rfl, hBq⟩;have hk := KEY.out wq hBq;have PX := lh hk.out.1;have GX := lh hk.out.2.1;have FX := lh hk.out.2.2;clear KEY HI hBq hk P2 G2 F2;have HX := HP.out.lt;have hlt := HP.out.lt;have HT := Z0r wq rb us d s_eq PX.out.rd HE.out;unfold s_eq at HT;have HT := lh HT;go_wp2_with fail
    refine HT.out.mono ?_;rintro e w5 ⟨rfl, hR5, hF5⟩;have P5 := PX.out.tail hR5 hF5;have G5 := GX.out.rfr hlt hF5;have F5 := FX.out.trans hF5;have hblk5 := G5.at'.blkOf;simp only [ATree.b, ATree.v, ATree.kind, ATree.text, ATree.n] at hblk5;have n3 : w5.cell? ⟨nb, 3, none⟩ = some (.slice none 0 0) := by simp [World.cell?, hblk5]
    have P5 := lh P5;have G5 := lh G5;have F5 := lh F5;clear hR5 hF5 hblk5 HT PX GX FX;go_wp2_with fail
    refine Z0 [(true, 0), (true, 1), (true, 2), (true, 3), (true, 4), (true, 5), (false, 6), (false, 7), (false, 8)] [9, 10, 11] (fun W => W.cell? ⟨nb, 3, none⟩ = some (.slice none 0 0)) (by kernel_rfl) (by kernel_rfl) (fun _ _ d _ _ h => by cases d <;> exact h) n3 (fun hS0 => ?_);simp only [Za, List.filterMap_cons, List.filterMap_nil, List.getElem?_toArray, List.getElem?_cons_zero, List.getElem?_cons_succ, Option.map_some]
    iterate 6
     first
      | (refine Z2 ?_ (by rfl) (fun w' hS' => ?_) ?_; rotate_left; (have s0 := hS'; go_simp; first | done | with_reducible rfl); simp only [Act.put, zA, zB, zC])
      | (refine Z1 (by rfl) ?_; simp only [Act.put, zA, zB, zC])
    refine Z6 (fun K hK => ?_);go_simp
    have P6 : Pre w5.drew rb B d us.tail := P5.out.below (Below.refl _ _).drew;rcases Zr H2.out with ⟨⟨c, p⟩, hv, rfl⟩ | ⟨t, vs, hv, hq3⟩
    ·refine (hV w5.drew rb B d _ _ P6 hv).mono ?_;rintro e w3 ⟨⟨b, rfl, h1, h2⟩, hF3⟩;exact ⟨rfl, Z07.pre F5.out.drew (r := .error (c, p)) ⟨⟨b, rfl, h1, h2⟩, hF3⟩⟩
    ·obtain rfl := Option.some.inj hq3;refine (hV w5.drew rb B d _ _ P6 hv).mono ?_;rintro e w3 ⟨a, rfl, hA, hR3, hF3⟩;have hF53 : RFr w5 w3 rb := (RFr.refl w5 rb).drew.trans hF3;have hN3 := G5.out.rfr hlt hF53;have hblk := hN3.at'.blkOf;simp only [ATree.b, ATree.v, ATree.kind, ATree.text, ATree.n] at hblk;have m3 : w3.cell? ⟨nb, 3, none⟩ = some (.slice none 0 0) := by simp [World.cell?, hblk]
     have mz : w3.frozen? ⟨nb, 3, none⟩ = false := by simp [World.frozen?, hblk]
     have hnb3 : nb < w3.heap.size := (Array.getElem?_eq_some_iff.1 hblk).1;have hk4 : ([] : List ATree).length ≤ 4000 := by simp
     have NE : Hid ((Value.slice none 0 0).ownBlock ≠ some nb) := lh (by simp [Value.ownBlock]);have N3 := lh hN3;have A3 := lh hA;have R3 := lh hR3;have F3 := lh (F5.out.trans hF53);refine hK _ _ m3 ?_;obtain ⟨i0, hi, hz0, hz1, hz2⟩ := info_parts Tryz.infoPtr;clear hK K hA hR3 hF3 hF53 hN3 hblk hv hq3 n3;refine Z6 (fun K hK => ?_);go_simp
     refine hK _ _ ((Z7 hnb3).trans m3) ?_;clear hK K;refine Z6 (fun K hK => ?_)
     refine step_append_lies _ (by rfl) (.tmp 27) (.tmp 30) 42 (by rfl) B 22 i0 _ 1 8 Tryz.underlying42 hi hz0 hz1 hz2 rfl (by decide) (.slice none 0 0) (([] : List ATree)).length ((([] : List ATree)).map ATree.ptr) (by rfl) (N3.out.at'.rowOf.alloc _) ⟨w3.heap.size, 0, none⟩ 1 1 [a.ptr] (by rfl) rfl (World.news_of_block (cs := #[a.ptr]) (t := 22) (fr := (0, 0)) (heap_alloc_new w3 _)) (by simp [ATree.ptr, Value.oneCell']) (by decide) (by unfold maxLen; omega) (by omega) (by simp; have := F3.out.size; have := HP.out.le; omega) (w3.heap.size + 1) (by simp) ?_;intro gg cap w4 hown4 hgrow4 hat4 hlt4
     have m4 : w4.cell? ⟨nb, 3, none⟩ = some (.slice none 0 0) := (hgrow4.cell_far ⟨nb, 3, none⟩ (by simp; omega) (fun e => NE.out e.symm)).trans ((Z7 hnb3).trans m3);have mz4 : w4.frozen? ⟨nb, 3, none⟩ = false := (hgrow4.frozen_far ⟨nb, 3, none⟩ (by simp; omega) (fun e => NE.out e.symm)).trans ((Zu hnb3).trans mz);refine hK _ _ m4 ?_;clear hK K;simp only [Act.put, zA, zB, zC]
     have hfin := Got.push hlt HP.out.le N3.out (wA := w5.drew) (fun x hx => (G5.out.new x hx).2) A3.out F3.out R3.out ((Below.refl _ _).alloc (Nat.le_refl _) _) hgrow4 hown4 (by rcases hat4 with h | h; (exact .inl h); (exact .inr (by omega))) hlt4;have FIN := lh hfin;clear hgrow4 hown4 hat4 hlt4 hfin;refine Z5 ?_;go_wp2;go_ret;exact ⟨_, rfl, FIN.out.1, FIN.out.2.2, FIN.out.2.1⟩
  ·have he' : isT s_eq us = false := by simpa using he
   have h1 := H1.out;cases must
   ·rw [if_neg (by simp), if_neg he] at h1;obtain rfl := Option.some.inj h1;have HT := Z1m w2 rb us d s_eq P2.out.rd he';unfold s_eq at HT;have HT := lh HT;clear h1 he he' H1;go_wp2_with fail
    refine HT.out.mono ?_;rintro e w3 ⟨rfl, hB3⟩;have R3 := lh (P2.out.rd.below hB3);have G3 := lh (G2.out.rfr HP.out.lt (RFr.below (rb := rb) hB3));have F3 := lh (F2.out.trans (RFr.below (rb := rb) hB3));clear hB3;go_wp2;go_ret;exact ⟨_, rfl, G3.out, R3.out, F3.out⟩
   ·rw [if_pos (by rw [he']; rfl)] at h1;obtain rfl := Option.some.inj h1;have HI := Z40 w2 rb us d s_eq P2.out.rd;rw [he'] at HI;unfold s_eq at HI;have HI := lh HI;clear h1 he he' H1;go_wp2_with fail
    refine HI.out.mono ?_;rintro e w3 ⟨rfl, hB3⟩;have HF := lh (Z2o w3 rb us d 3 (P2.out.rd.below hB3));have F3 := lh (F2.out.trans (RFr.below (rb := rb) hB3));clear hB3;go_wp2_with fail
    refine HF.out.mono ?_;rintro e w4 ⟨⟨b, rfl, h1, h2⟩, hB⟩;exact ⟨rfl, Z07.err F3.out ⟨b, rfl, h1, h2⟩ hB⟩
 ·have HC := lh (Z5n w rb ts d hP.rd hk);clear hP hp hw hk;go_enter Tryz.func87, Tryz.ntmps87
  go_wp2_with fail
  refine HC.out.mono ?_;rintro e w3 ⟨⟨b, rfl, h1, h2⟩, hB⟩;exact ⟨rfl, Z07.err (RFr.refl _ _) ⟨b, rfl, h1, h2⟩ hB⟩
theorem Zbj (f : Nat) (hBn : Says 110 (fun rb => #[.pointer (some ⟨rb, 0, none⟩), .int .i64 0]) (.bin 0) f) (hV : Says 91 rArg .value f) :
 Says 102 rArg .assign (f + 1) := by
 intro w rb B d ts r hP hp;have hw : Zx (Z4 f (.bin 0) d ts) (fun x ts' => if isT s_eq ts' then (if x.kind = 23 ∨ x.kind = 36 then Zx (Z4 f .value d ts'.tail) fun y ts => okT (.mk 24 ByteArray.empty 0 [x, y]) ts else some (.error (1, (hdT ts).at'))) else okT x ts') = some r := hp;have HP := lh hP;obtain ⟨tb, off, cap, h⟩ := hP.rd;have c0 := h.c0;have t3 := h.hd (j := 3) rfl;have hpos := h.pos;have hm := h.most;have hle := h.le;unfold maxLen at hm;obtain ⟨n, hn⟩ : ∃ n, n = ts.length := ⟨_, rfl⟩
 rw [← hn] at c0 hpos hle;have H1 := lh hw;unfold rArg;obtain ⟨pl, hpl⟩ : ∃ p, p = (hdT ts).at' := ⟨_, rfl⟩
 rw [← hpl] at t3;have HPL := lh hpl;clear hP hp hw h hn hpl;have hlt := HP.out.lt;rcases Zr H1.out with ⟨⟨c, p⟩, hv, rfl⟩ | ⟨t, us, hv, h2⟩
 ·have HV := lh (hBn w rb B d _ _ HP.out hv);clear hv;go_enter Tryz.func102, Tryz.ntmps102
  go_wp2_with fail
  refine HV.out.mono ?_;rintro e w2 ⟨⟨b, rfl, h1, h2⟩, hF⟩;exact ⟨rfl, ⟨b, rfl, h1, h2⟩, hF⟩
 ·have HV := lh (hBn w rb B d _ _ HP.out hv);have hl := Z0t hv;have H2 := lh h2;clear hv h2;go_enter Tryz.func102, Tryz.ntmps102
  go_wp2_with fail
  refine HV.out.mono ?_;rintro e w2 ⟨a, rfl, hG, hR2, hF2⟩;have hblk := hG.at'.blkOf;have d0 : w2.cell? ⟨a.b, 0, none⟩ = some (.int .i64 a.kind) := by simp [World.cell?, hblk]
  have hka : a.kind = t.kind := by rw [← hG.tree]; cases a; rfl
  have HKA := lh hka;have P2 := lh (HP.out.next hR2 hF2 hl);have G2 := lh hG;have F2 := lh hF2;obtain ⟨ab, hab⟩ : ∃ b, b = a.b := ⟨_, rfl⟩
  obtain ⟨ak, hak⟩ : ∃ k, k = a.kind := ⟨_, rfl⟩
  have hal := G2.out.at'.lt;rw [← hab] at d0 hal ⊢;rw [← hak] at d0;have HAB := lh hab;have HAK := lh hak;clear hR2 hF2 hG HV hl hblk hka hab hak c0 t3;by_cases he : isT s_eq us = true
  ·have h3 := H2.out;rw [if_pos he] at h3;have HI := Z40 w2 rb us d s_eq P2.out.rd;rw [he] at HI;unfold s_eq at HI;have HI := lh HI;have HE := lh he;clear he;go_wp2_with fail
   refine HI.out.mono ?_;rintro e w3 ⟨rfl, hB3⟩;have P3 := lh (P2.out.below hB3);have G3 := lh (G2.out.rfr hlt (RFr.below (rb := rb) hB3));have F3 := lh (F2.out.trans (RFr.below (rb := rb) hB3));have d0' := (hB3.cell (p := ⟨ab, 0, none⟩) hal).trans d0;clear hB3 HI;by_cases hk : t.kind = 23 ∨ t.kind = 36
   ·rw [if_pos hk] at h3;have H3 := lh h3;clear h3;have HT := Z0r w3 rb us d s_eq P3.out.rd HE.out;unfold s_eq at HT;have HT := lh HT;have hak2 : ak = 23 ∨ ak = 36 := by rw [HAK.out, HKA.out]; exact hk
    clear hk;rcases hak2 with rfl | rfl
    all_goals
     go_wp2_with fail
     refine HT.out.mono ?_;rintro e w5 ⟨rfl, hR5, hF5⟩;have P5 := P3.out.tail hR5 hF5;have G5 := lh (G3.out.rfr hlt hF5);have F5 := lh (F3.out.trans hF5);rcases Zr H3.out with ⟨⟨c, p⟩, hv, rfl⟩ | ⟨y, vs, hv, h4⟩
     ·have HV := lh (hV w5 rb B d _ _ P5 hv);clear hv hR5 hF5;go_wp2_with fail
      refine HV.out.mono ?_;rintro e w6 ⟨⟨b, rfl, h1, h2⟩, hF⟩;exact ⟨rfl, Z07.pre F5.out (r := .error (c, p)) ⟨⟨b, rfl, h1, h2⟩, hF⟩⟩
     ·obtain rfl := Option.some.inj h4;have HV := lh (hV w5 rb B d _ _ P5 hv);clear hv hR5 hF5 h4;go_wp2_with fail
      refine HV.out.mono ?_;rintro e w6 ⟨c, rfl, hC, hR6, hF6⟩;have G6 := G5.out.rfr hlt hF6;have FIN := lh (Got.two (k := 24) (t := ⟨#[]⟩) HP.out.le (F5.out.trans hF6) G6 (wA := w5) (fun x hx => (G5.out.new x hx).2) F5.out.size hC);have hb1 : Below w6.heap.size w6 (w6.alloc (.cells #[.pointer (some ⟨ab, 0, none⟩), .pointer (some ⟨c.b, 0, none⟩)] 22)) := (Below.refl _ _).alloc (Nat.le_refl _) _
      have hb2 : Below w6.heap.size w6 ((w6.alloc (.cells #[.pointer (some ⟨ab, 0, none⟩), .pointer (some ⟨c.b, 0, none⟩)] 22)).alloc (.cells #[.int .i64 24, .string ⟨#[]⟩, .int .i64 0, .slice (some ⟨w6.heap.size, 0, none⟩) 2 2] 44)) := hb1.alloc (by simp) _;have R6 := lh (hR6.below hb2);have F6 := lh ((F5.out.trans hF6).trans (RFr.below (rb := rb) hb2));clear hC hR6 hF6 G6 HV hb1 hb2;go_wp2_with fail
      refine (Z0g _ rb 24 ⟨#[]⟩ _ 2 2).mono ?_;rintro e w7 ⟨rfl, rfl⟩;go_wp2;go_ret;refine ⟨.mk (w6.heap.size + 1) (.slice (some ⟨w6.heap.size, 0, none⟩) 2 2) 24 ⟨#[]⟩ 0 [a, c], rfl, ?_, R6.out, F6.out⟩;rw [HAB.out];exact FIN.out
   ·rw [if_neg hk] at h3;obtain rfl := Option.some.inj h3;have n23 : (ak != 23) = true := by rw [HAK.out, HKA.out]; simp; omega
    have n36 : (ak != 36) = true := by rw [HAK.out, HKA.out]; simp; omega
    clear h3 hk;go_wp2;refine ⟨rfl, ?_⟩;rw [← HPL.out];exact Z07.err F3.out (Z9v (Nat.le_refl _)) ((Below.refl _ _).alloc (Nat.le_refl _) _)
  ·have he' : isT s_eq us = false := by simpa using he
   have h3 := H2.out;rw [if_neg he] at h3;obtain rfl := Option.some.inj h3;have HI := Z40 w2 rb us d s_eq P2.out.rd;rw [he'] at HI;unfold s_eq at HI;have HI := lh HI;clear h3 he he';go_wp2_with fail
   refine HI.out.mono ?_;rintro e w3 ⟨rfl, hB3⟩;have R3 := lh (P2.out.rd.below hB3);have G3 := lh (G2.out.rfr hlt (RFr.below (rb := rb) hB3));have F3 := lh (F2.out.trans (RFr.below (rb := rb) hB3));clear hB3;go_wp2;go_ret;rw [HAB.out];exact ⟨a, rfl, G3.out, R3.out, F3.out⟩
theorem Z6g (w0 w : World) (rb B d : Nat) (ts : List Tok) (a : ATree) (t : Tree) (r : Except (Int × Nat) (Tree × List Tok)) (hP : Pre w rb B d ts) (hG : Got w0 B w a t) (hF : RFr w0 w rb) (hr : endT t ts = some r) :
 Calls Tryz.prog 86 #[.pointer (some ⟨rb, 0, none⟩), .pointer (some ⟨a.b, 0, none⟩)] w (Z07 w0 rb B d r) := by
 have HP := lh hP;have HG := lh hG;have HF := lh hF;rcases Z1r hr with ⟨hs, h1⟩ | ⟨hs, rfl⟩
 ·obtain rfl := Option.some.inj h1;have HC := lh (Z1t w rb ts d Zh hP.rd hs);clear hP hG hF hr hs h1;go_enter Tryz.func86, Tryz.ntmps86
  go_wp2_with fail
  refine HC.out.mono ?_;rintro e w3 ⟨rfl, hR3, hF3⟩;have R3 := lh hR3;have F3 := lh hF3;clear hR3 hF3 HC;go_wp2;go_ret;exact ⟨a, rfl, HG.out.rfr HP.out.lt F3.out, R3.out, HF.out.trans F3.out⟩
 ·have HC := lh (Z33 w rb ts d Zh hP.rd hs);clear hP hG hF hr hs;go_enter Tryz.func86, Tryz.ntmps86
  go_wp2_with fail
  refine HC.out.mono ?_;rintro e w3 ⟨⟨b, rfl, h1, h2⟩, hB⟩;exact ⟨rfl, Z07.err HF.out ⟨b, rfl, h1, h2⟩ hB⟩
end Go.Proofs.YtgmnfgljkocnpaaGreatDoor
