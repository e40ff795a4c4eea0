/- HeapPlays cut in pieces: the code's parts, its frame, what holds between them. Two heaps: the reference's rows in hand; an object more, a room more, as the law itself appends them. -/
import Derived.Test.YtfanolcjgaccpaaDoorJ16
import Derived.Test.YtfanolcjgaccpaaDoorJ13
namespace Go.Proofs.YtfanolcjgaccpaaDoor
open Go Go.RowKit
set_option maxRecDepth 1000000
set_option linter.unusedVariables false

/-- a part of a code: at each step left (0) or right, or what is within -/
def codeAt : List Nat → Code → Code
  | [], c => c
  | i :: p, .seq a b => codeAt p (if i = 0 then a else b)
  | i :: p, .cond _ a b => codeAt p (if i = 0 then a else b)
  | _ :: p, .block _ c => codeAt p c
  | _ :: p, .loop c => codeAt p c
  | _ :: p, .scope c => codeAt p c
  | _ :: _, _ => .skip
noncomputable def hpAt (p : List Nat) : Code := codeAt p (Tryd.f3.body.getD .skip)

theorem lit470 (t : Array Value) (h : t.size = 470) : ∃ x : Nat → Value, t = #[x 0, x 1, x 2, x 3, x 4, x 5, x 6, x 7, x 8, x 9, x 10, x 11, x 12, x 13, x 14, x 15, x 16, x 17, x 18, x 19, x 20, x 21, x 22, x 23, x 24, x 25, x 26, x 27, x 28, x 29, x 30, x 31, x 32, x 33, x 34, x 35, x 36, x 37, x 38, x 39, x 40, x 41, x 42, x 43, x 44, x 45, x 46, x 47, x 48, x 49, x 50, x 51, x 52, x 53, x 54, x 55, x 56, x 57, x 58, x 59, x 60, x 61, x 62, x 63, x 64, x 65, x 66, x 67, x 68, x 69, x 70, x 71, x 72, x 73, x 74, x 75, x 76, x 77, x 78, x 79, x 80, x 81, x 82, x 83, x 84, x 85, x 86, x 87, x 88, x 89, x 90, x 91, x 92, x 93, x 94, x 95, x 96, x 97, x 98, x 99, x 100, x 101, x 102, x 103, x 104, x 105, x 106, x 107, x 108, x 109, x 110, x 111, x 112, x 113, x 114, x 115, x 116, x 117, x 118, x 119, x 120, x 121, x 122, x 123, x 124, x 125, x 126, x 127, x 128, x 129, x 130, x 131, x 132, x 133, x 134, x 135, x 136, x 137, x 138, x 139, x 140, x 141, x 142, x 143, x 144, x 145, x 146, x 147, x 148, x 149, x 150, x 151, x 152, x 153, x 154, x 155, x 156, x 157, x 158, x 159, x 160, x 161, x 162, x 163, x 164, x 165, x 166, x 167, x 168, x 169, x 170, x 171, x 172, x 173, x 174, x 175, x 176, x 177, x 178, x 179, x 180, x 181, x 182, x 183, x 184, x 185, x 186, x 187, x 188, x 189, x 190, x 191, x 192, x 193, x 194, x 195, x 196, x 197, x 198, x 199, x 200, x 201, x 202, x 203, x 204, x 205, x 206, x 207, x 208, x 209, x 210, x 211, x 212, x 213, x 214, x 215, x 216, x 217, x 218, x 219, x 220, x 221, x 222, x 223, x 224, x 225, x 226, x 227, x 228, x 229, x 230, x 231, x 232, x 233, x 234, x 235, x 236, x 237, x 238, x 239, x 240, x 241, x 242, x 243, x 244, x 245, x 246, x 247, x 248, x 249, x 250, x 251, x 252, x 253, x 254, x 255, x 256, x 257, x 258, x 259, x 260, x 261, x 262, x 263, x 264, x 265, x 266, x 267, x 268, x 269, x 270, x 271, x 272, x 273, x 274, x 275, x 276, x 277, x 278, x 279, x 280, x 281, x 282, x 283, x 284, x 285, x 286, x 287, x 288, x 289, x 290, x 291, x 292, x 293, x 294, x 295, x 296, x 297, x 298, x 299, x 300, x 301, x 302, x 303, x 304, x 305, x 306, x 307, x 308, x 309, x 310, x 311, x 312, x 313, x 314, x 315, x 316, x 317, x 318, x 319, x 320, x 321, x 322, x 323, x 324, x 325, x 326, x 327, x 328, x 329, x 330, x 331, x 332, x 333, x 334, x 335, x 336, x 337, x 338, x 339, x 340, x 341, x 342, x 343, x 344, x 345, x 346, x 347, x 348, x 349, x 350, x 351, x 352, x 353, x 354, x 355, x 356, x 357, x 358, x 359, x 360, x 361, x 362, x 363, x 364, x 365, x 366, x 367, x 368, x 369, x 370, x 371, x 372, x 373, x 374, x 375, x 376, x 377, x 378, x 379, x 380, x 381, x 382, x 383, x 384, x 385, x 386, x 387, x 388, x 389, x 390, x 391, x 392, x 393, x 394, x 395, x 396, x 397, x 398, x 399, x 400, x 401, x 402, x 403, x 404, x 405, x 406, x 407, x 408, x 409, x 410, x 411, x 412, x 413, x 414, x 415, x 416, x 417, x 418, x 419, x 420, x 421, x 422, x 423, x 424, x 425, x 426, x 427, x 428, x 429, x 430, x 431, x 432, x 433, x 434, x 435, x 436, x 437, x 438, x 439, x 440, x 441, x 442, x 443, x 444, x 445, x 446, x 447, x 448, x 449, x 450, x 451, x 452, x 453, x 454, x 455, x 456, x 457, x 458, x 459, x 460, x 461, x 462, x 463, x 464, x 465, x 466, x 467, x 468, x 469] ∧ ∀ i, x i = t.getD i undef := by
  refine ⟨fun i => t.getD i undef, ?_, fun i => rfl⟩
  have e : t = ((List.range 470).map fun i => t.getD i undef).toArray := by
    apply Array.ext
    · simp [h]
    · intro i h1 h2
      simp at h2
      simp [h1]
  exact e

structure DoRec where
  what : Int
  a : Int
  b : Int
  name : ByteArray
  kind : Int
  v : Int
  fixed : Bool
def DoRec.cells (d : DoRec) : List Value := [.int .i64 d.what, .int .i64 d.a, .int .i64 d.b, .string d.name, .int .i64 d.kind, .int .i64 d.v, .bool d.fixed]
def DoRec.obj (d : DoRec) : Obj := .cells d.cells.toArray 34 (0, 0)
def vObj (n : Int) : Obj := .cells #[.int .i64 3, .int .i64 n, .string ⟨#[]⟩] 36 (0, 0)

/-- the frame's slots that matter: the list, the heaps, the place -/
structure Fm (a : Act) (v0 : Value) (hb rb k : Nat) : Prop where
  size : a.tmps.size = 470
  defs : a.defers = []
  t0 : a.tmps.getD 0 undef = v0
  t3 : a.tmps.getD 3 undef = .pointer (some ⟨hb, 0, none⟩)
  t4 : a.tmps.getD 4 undef = .pointer (some ⟨rb, 0, none⟩)
  t5 : a.tmps.getD 5 undef = .int .i64 k
/-- at what is done, and behind it: d lies in a block of its own -/
structure Fd (a : Act) (v0 : Value) (hb rb k db : Nat) : Prop extends Fm a v0 hb rb k where
  t6 : a.tmps.getD 6 undef = .pointer (some ⟨db, 0, none⟩)
structure Fv (a : Act) (v0 : Value) (hb rb k db vb : Nat) (what : Int) : Prop extends Fd a v0 hb rb k db where
  t7 : a.tmps.getD 7 undef = .pointer (some ⟨vb, 0, none⟩)
  t44 : a.tmps.getD 44 undef = .int .i64 what

/-- ahead of what is done -/
structure PreD (w0 : World) (v0 : Value) (hb rb k db vb : Nat) (d : DoRec) (H : LHeap) (a : Act) (w : World) : Prop where
  fr : Fv a v0 hb rb k db vb d.what
  duo : Duo w0 [(vb, vObj d.v), (db, d.obj)] hb rb H H w
  good : H.Good k
  err : ErrType w0
  low : w0.heap.size ≤ db
  nm : d.name.size ≤ 20
  k80 : k < 80
/-- behind it -/
def MidD (w0 : World) (v0 : Value) (hb rb k db : Nat) (d : DoRec) (a : Act) (w : World) : Prop :=
  Fd a v0 hb rb k db ∧ ∃ H kd, Duo w0 [(db, { d with kind := kd }.obj)] hb rb H H w ∧ H.Good (k + 1)
/-- behind a round -/
def Next (w0 : World) (v0 : Value) (hb rb k : Nat) (a : Act) (w : World) : Prop :=
  Fm a v0 hb rb k ∧ ∃ H, Duo w0 [] hb rb H H w ∧ H.Good (k + 1)
def MidQ (w0 : World) (v0 : Value) (hb rb k db : Nat) (d : DoRec) : Exit → Act → World → Prop
  | .normal, a, w => MidD w0 v0 hb rb k db d a w
  | .exit 1, a, w => Next w0 v0 hb rb k a w
  | _, _, _ => False

section
variable {w0 w : World} {v0 : Value} {hb rb k db vb : Nat} {d : DoRec} {H : LHeap} {a : Act}
theorem Fd.tail {a' : Act} (h : Fd a v0 hb rb k db) (hs : a'.tmps.size = a.tmps.size) (hd : a'.defers = a.defers) (ht : ∀ i, i ≤ 6 → a'.tmps.getD i undef = a.tmps.getD i undef) : Fd a' v0 hb rb k db :=
  ⟨⟨hs.trans h.size, hd.trans h.defs, (ht 0 (by omega)).trans h.t0, (ht 3 (by omega)).trans h.t3, (ht 4 (by omega)).trans h.t4, (ht 5 (by omega)).trans h.t5⟩, (ht 6 (by omega)).trans h.t6⟩
theorem MidD.next (h : MidD w0 v0 hb rb k db d a w) : Next w0 v0 hb rb k a w := by
  obtain ⟨h1, H, kd, h2, h3⟩ := h
  exact ⟨h1.toFm, H, h2.weak (fun p hp => by simp at hp), h3⟩
theorem d_cells {w : World} {b : Nat} {d : DoRec} (h : w.heap[b]? = some d.obj) : w.cell? ⟨b, 0, none⟩ = some (.int .i64 d.what) ∧ w.cell? ⟨b, 1, none⟩ = some (.int .i64 d.a) ∧ w.cell? ⟨b, 2, none⟩ = some (.int .i64 d.b) ∧
    w.cell? ⟨b, 3, none⟩ = some (.string d.name) ∧ w.cell? ⟨b, 4, none⟩ = some (.int .i64 d.kind) ∧ w.cell? ⟨b, 5, none⟩ = some (.int .i64 d.v) ∧ w.cell? ⟨b, 6, none⟩ = some (.bool d.fixed) := by
  simp [World.cell?, h, DoRec.obj, DoRec.cells]
theorem v_cells {w : World} {b : Nat} {n : Int} (h : w.heap[b]? = some (vObj n)) : w.cell? ⟨b, 0, none⟩ = some (.int .i64 3) ∧ w.cell? ⟨b, 1, none⟩ = some (.int .i64 n) ∧ w.cell? ⟨b, 2, none⟩ = some (.string ⟨#[]⟩) := by
  simp [World.cell?, h, vObj]
theorem Duo.dBlk (h : Duo w0 [(vb, vObj d.v), (db, d.obj)] hb rb H H w) : w.heap[db]? = some d.obj := h.get (p := (db, d.obj)) (by simp)
theorem Duo.vBlk (h : Duo w0 [(vb, vObj d.v), (db, d.obj)] hb rb H H w) : w.heap[vb]? = some (vObj d.v) := h.get (p := (vb, vObj d.v)) (by simp)
theorem Duo.dBlk' {H1 H2 : LHeap} (h : Duo w0 [(vb, vObj d.v), (db, d.obj)] hb rb H1 H2 w) : w.heap[db]? = some d.obj := h.get (p := (db, d.obj)) (by simp)
theorem Duo.vBlk' {H1 H2 : LHeap} (h : Duo w0 [(vb, vObj d.v), (db, d.obj)] hb rb H1 H2 w) : w.heap[vb]? = some (vObj d.v) := h.get (p := (vb, vObj d.v)) (by simp)
theorem good_uniqs {n : Nat} (h : H.Good n) (hn : n < 1000) : (∀ (m : Nat) (o : LObj), H.objects[m]? = some o → ApartN LProp.name o.props ∧ o.props.length < 1099511627776) ∧ (∀ (m : Nat) (s : LScope), H.scopes[m]? = some s → ApartN LBind.name s.names ∧ s.names.length < 1099511627776) :=
  ⟨fun m o ho => ⟨(h.po m o ho).uniq, by have := (h.po m o ho).len; omega⟩, fun m s hs => ⟨(h.ps m s hs).uniq, by have := (h.ps m s hs).len; omega⟩⟩
theorem good_lens {n : Nat} (h : H.Good n) (hn : n < 1000) : (∀ (m : Nat) (o : LObj), H.objects[m]? = some o → o.props.length < 1099511627776) ∧ (∀ (m : Nat) (s : LScope), H.scopes[m]? = some s → s.names.length < 1099511627776) :=
  ⟨fun m o ho => by have := (h.po m o ho).len; omega, fun m s hs => by have := (h.ps m s hs).len; omega⟩
end
end Go.Proofs.YtfanolcjgaccpaaDoor

namespace Go.Proofs.YtfanolcjgaccpaaDoor
open Go Go.RowKit
set_option maxRecDepth 100000
set_option linter.unusedVariables false

theorem Tryd.infoIntK : (Tryd.prog.info? 3).map (fun i => (i.zero, i.size, i.bytes)) = some (some (.int .i64 0), 1, 8) := by kernel_rfl
theorem Tryd.infoRRow : (Tryd.prog.info? 89).map (fun i => (i.zero, i.size, i.bytes)) = some (some (.slice none 0 0), 1, 24) := by kernel_rfl
theorem Tryd.infoRRoom : (Tryd.prog.info? 42).map (fun i => (i.zero, i.size, i.bytes)) = some (some (.agg #[.int .i64 0, .int .i64 0, .slice none 0 0]), 3, 40) := by kernel_rfl

def DuoV (w0 : World) (K : List (Nat × Obj)) (hb rb : Nat) (H1 H2 : LHeap) (V : RV) (w : World) : Prop :=
  ∃ ρ L, HeapAt ρ w hb 0 L H1 ∧ RAt w rb V H2 ∧ (∀ b, V.own rb b → ρ b = none) ∧ Below w0.heap.size w0 w ∧
    (∀ b, b < w0.heap.size → ρ b = none ∧ ¬ V.own rb b) ∧ (∀ p ∈ K, w.heap[p.1]? = some p.2 ∧ ρ p.1 = none ∧ ¬ V.own rb p.1)
section
variable {w0 w w' : World} {K : List (Nat × Obj)} {hb rb : Nat} {H1 H2 H3 : LHeap} {V V' : RV}
theorem Duo.toV (h : Duo w0 K hb rb H1 H2 w) : ∃ V, DuoV w0 K hb rb H1 H2 V w := by
  obtain ⟨ρ, L, V, h⟩ := h
  exact ⟨V, ρ, L, h⟩
theorem DuoV.duo (h : DuoV w0 K hb rb H1 H2 V w) : Duo w0 K hb rb H1 H2 w := by
  obtain ⟨ρ, L, h⟩ := h
  exact ⟨ρ, L, V, h⟩
theorem DuoV.r (h : DuoV w0 K hb rb H1 H2 V w) : RAt w rb V H2 := by
  obtain ⟨ρ, L, _, h, _⟩ := h; exact h
theorem DuoV.get (h : DuoV w0 K hb rb H1 H2 V w) {p : Nat × Obj} (hp : p ∈ K) : w.heap[p.1]? = some p.2 := h.duo.get hp
theorem DuoV.below (h : DuoV w0 K hb rb H1 H2 V w) (hB : Below w.heap.size w w') : DuoV w0 K hb rb H1 H2 V w' := by
  obtain ⟨ρ, L, h1, h2, h3, h4, h5, h6⟩ := h
  exact ⟨ρ, L, h1.below hB, h2.below hB, h3, h4.trans (hB.mono h4.size), h5, fun p hp => ⟨(hB.block _ (Array.getElem?_eq_some_iff.1 (h6 p hp).1).1).trans (h6 p hp).1, (h6 p hp).2⟩⟩
theorem DuoV.drew (h : DuoV w0 K hb rb H1 H2 V w) : DuoV w0 K hb rb H1 H2 V w.drew := h.below (Below.refl _ _).drew
theorem DuoV.heap (h : DuoV w0 K hb rb H1 H2 V w) {f : Nat} {args : Array Value} {P : Ending → Prop}
    (hc : ∀ ρ L, HeapAt ρ w hb 0 L H1 → Calls Tryd.prog f args w fun e w' => P e ∧ ∃ ρ' L', HeapAt ρ' w' hb 0 L' H3 ∧ Fr ρ ρ' hb 0 w w') :
    Calls Tryd.prog f args w fun e w' => P e ∧ DuoV w0 K hb rb H3 H2 V w' := by
  obtain ⟨ρ, L, h1, h2, h3, h4, h5, h6⟩ := h
  refine (hc ρ L h1).mono fun e w' ⟨he, ρ', L', hA, hF⟩ => ⟨he, ρ', L', hA, h2.keep hF.size fun b hb' => hF.block b (h2.live hb') (h3 b hb'), fun b hb' => hF.role b (h2.live hb') (h3 b hb'), ?_, ?_, ?_⟩
  · exact h4.trans ⟨hF.os, hF.tape, hF.output, hF.size, fun k hk => hF.block k (Nat.lt_of_lt_of_le hk h4.size) (h5 k hk).1⟩
  · exact fun b hb' => ⟨hF.role b (Nat.lt_of_lt_of_le hb' h4.size) (h5 b hb').1, (h5 b hb').2⟩
  · intro p hp
    obtain ⟨q1, q2, q3⟩ := h6 p hp
    have hl := (Array.getElem?_eq_some_iff.1 q1).1
    exact ⟨(hF.block _ hl q2).trans q1, hF.role _ hl q2, q3⟩
theorem DuoV.to (h : DuoV w0 K hb rb H1 H2 V w) (hA : RAt w' rb V' H3) (hF : RFr V V' rb w w') : Duo w0 K hb rb H1 H3 w' := by
  obtain ⟨ρ, L, h1, h2, h3, h4, h5, h6⟩ := h
  have own : ∀ b, V'.own rb b → ρ b = none := fun b hb' => by
    by_cases hl : b < w.heap.size
    · exact h3 b (hF.own b hl hb')
    · exact h1.fresh (by omega)
  refine ⟨ρ, L, V', h1.keep hF.size fun b hb' => hF.block b (h1.live b hb') (fun e => hb' (h3 b e)), hA, own, ?_, ?_, ?_⟩
  · exact h4.trans ⟨hF.os, hF.tape, hF.output, hF.size, fun k hk => hF.block k (Nat.lt_of_lt_of_le hk h4.size) (h5 k hk).2⟩
  · exact fun b hb' => ⟨(h5 b hb').1, fun e => (h5 b hb').2 (hF.own b (Nat.lt_of_lt_of_le hb' h4.size) e)⟩
  · intro p hp
    obtain ⟨q1, q2, q3⟩ := h6 p hp
    have hl := (Array.getElem?_eq_some_iff.1 q1).1
    exact ⟨(hF.block _ hl q3).trans q1, q2, fun e => q3 (hF.own _ hl e)⟩
/-- no kept block is the reference's own -/
theorem DuoV.notOwn (h : DuoV w0 K hb rb H1 H2 V w) {p : Nat × Obj} (hp : p ∈ K) : ¬ V.own rb p.1 := by
  obtain ⟨ρ, L, h1, h2, h3, h4, h5, h6⟩ := h
  exact (h6 p hp).2.2

theorem grow_of_below {row : Option Nat} (hB : Below w.heap.size w w') : w.grownBy w' row := ⟨hB.os, hB.tape, hB.output, hB.size, fun b hb _ => hB.block b hb⟩
theorem grow_trans {w'' : World} {row : Option Nat} (h1 : w.grownBy w' row) (h2 : w'.grownBy w'' row) : w.grownBy w'' row :=
  ⟨h2.os.trans h1.os, h2.tape.trans h1.tape, h2.output.trans h1.output, Nat.le_trans h1.size h2.size, fun b hb hn => (h2.block b (Nat.lt_of_lt_of_le hb h1.size) hn).trans (h1.block b hb hn)⟩

theorem RAt.pushRoom {H : LHeap} (h : RAt w rb V H) {wA w2 : World} {gg cap : Nat} {outer object : Int} (hA : Below w.heap.size w wA) (hg : wA.grownBy w2 V.vr.ownBlock)
    (hown : w2.ownsRow 0 42 3 (.slice (some ⟨gg, 0, none⟩) (H.scopes.length + 1) cap) (H.scopes.length + 1) ((H.scopes.zip V.cv).flatMap roomCells ++ [.int .i64 outer, .int .i64 object, nilRow]))
    (hat : V.vr.ownBlock = some gg ∨ w.heap.size ≤ gg) :
    ∃ V', RAt (w2.setCell ⟨rb, 2, none⟩ (.slice (some ⟨gg, 0, none⟩) (H.scopes.length + 1) cap)) rb V' { H with scopes := H.scopes ++ [⟨outer, object, []⟩] } ∧
      RFr V V' rb w (w2.setCell ⟨rb, 2, none⟩ (.slice (some ⟨gg, 0, none⟩) (H.scopes.length + 1) cap)) := by
  have hrb := h.rbLt
  have hnr : some rb ≠ V.vr.ownBlock := fun e => h.off .roms e.symm
  have old : ∀ b, b < w.heap.size → some b ≠ V.vr.ownBlock → w2.heap[b]? = w.heap[b]? := fun b hb h2 => (hg.block b (Nat.lt_of_lt_of_le hb hA.size) h2).trans (hA.block b hb)
  have far : ∀ b, b ≠ rb → (w2.setCell ⟨rb, 2, none⟩ (.slice (some ⟨gg, 0, none⟩) (H.scopes.length + 1) cap)).heap[b]? = w2.heap[b]? := fun b hb => Below.heap_setCell _ _ _ _ hb
  have hgr : gg ≠ rb := by
    rcases hat with e | e
    · rintro rfl; exact hnr e.symm
    · omega
  refine h.addRoom (vr' := .slice (some ⟨gg, 0, none⟩) (H.scopes.length + 1) cap) ?_ ?_ ?_ (fun b hb h1 h2 => (far b h1).trans (old b hb h2)) (fun g hg' => ?_) (hg.os.trans hA.os) (hg.tape.trans hA.tape) (hg.output.trans hA.output)
  · exact setCell_block _ ((old rb hrb hnr).trans h.head)
  · exact ownsRow_block hown fun g hg' => far g (by simp only [Value.ownBlock, Option.some.injEq] at hg'; omega)
  · exact Nat.le_trans hA.size (Nat.le_trans hg.size (by simp [World.setCell]))
  · simp only [Value.ownBlock, Option.some.injEq] at hg'
    subst hg'; exact hat

theorem RAt.pushObject {H : LHeap} (h : RAt w rb V H) {w5 w6 : World} {g1 c1 g2 c2 : Nat} {code : Int} (hg5 : w.grownBy w5 V.vc.ownBlock) (hg6 : w5.grownBy w6 V.vp.ownBlock)
    (hC : w5.ownsRow 0 3 1 (.slice (some ⟨g1, 0, none⟩) (H.objects.length + 1) c1) (H.objects.length + 1) (H.objects.map (fun o => Value.int .i64 o.code) ++ [.int .i64 code]))
    (hP : w6.ownsRow 0 89 1 (.slice (some ⟨g2, 0, none⟩) (H.objects.length + 1) c2) (H.objects.length + 1) (V.pv ++ [nilRow]))
    (hl1 : g1 < w5.heap.size) (h1 : V.vc.ownBlock = some g1 ∨ w.heap.size ≤ g1) (h2 : V.vp.ownBlock = some g2 ∨ w5.heap.size ≤ g2) :
    ∃ V', RAt ((w6.setCell ⟨rb, 0, none⟩ (.slice (some ⟨g1, 0, none⟩) (H.objects.length + 1) c1)).setCell ⟨rb, 1, none⟩ (.slice (some ⟨g2, 0, none⟩) (H.objects.length + 1) c2)) rb V' { H with objects := H.objects ++ [⟨[], code⟩] } ∧
      RFr V V' rb w ((w6.setCell ⟨rb, 0, none⟩ (.slice (some ⟨g1, 0, none⟩) (H.objects.length + 1) c1)).setCell ⟨rb, 1, none⟩ (.slice (some ⟨g2, 0, none⟩) (H.objects.length + 1) c2)) := by
  have hrb := h.rbLt
  have hn1 : some rb ≠ V.vc.ownBlock := fun e => h.off .cods e.symm
  have hn2 : some rb ≠ V.vp.ownBlock := fun e => h.off .prps e.symm
  have lt1 : ∀ g, V.vc.ownBlock = some g → g < w.heap.size := fun g hg => h.live (.inr ⟨.cods, hg⟩)
  have lt2 : ∀ g, V.vp.ownBlock = some g → g < w.heap.size := fun g hg => h.live (.inr ⟨.prps, hg⟩)
  have old : ∀ b, b < w.heap.size → some b ≠ V.vc.ownBlock → some b ≠ V.vp.ownBlock → w6.heap[b]? = w.heap[b]? := fun b hb q1 q2 => (hg6.block b (Nat.lt_of_lt_of_le hb hg5.size) q2).trans (hg5.block b hb q1)
  have far : ∀ b, b ≠ rb → ((w6.setCell ⟨rb, 0, none⟩ (.slice (some ⟨g1, 0, none⟩) (H.objects.length + 1) c1)).setCell ⟨rb, 1, none⟩ (.slice (some ⟨g2, 0, none⟩) (H.objects.length + 1) c2)).heap[b]? = w6.heap[b]? := fun b hb => by
    rw [Below.heap_setCell _ _ _ _ hb, Below.heap_setCell _ _ _ _ hb]
  have g1rb : g1 ≠ rb := by
    rcases h1 with e | e
    · rintro rfl; exact hn1 e.symm
    · omega
  have g2rb : g2 ≠ rb := by
    have := hg5.size
    rcases h2 with e | e
    · rintro rfl; exact hn2 e.symm
    · omega
  have hne1 : some g1 ≠ V.vp.ownBlock := fun e => by
    rcases h1 with q | q
    · exact absurd (h.apart .cods .prps g1 q e.symm) (by simp)
    · have := lt2 g1 e.symm; omega
  have hne : g1 ≠ g2 := by
    rcases h2 with q | q
    · rintro rfl; exact hne1 q.symm
    · omega
  refine h.addObject (vc' := .slice (some ⟨g1, 0, none⟩) (H.objects.length + 1) c1) (vp' := .slice (some ⟨g2, 0, none⟩) (H.objects.length + 1) c2) ?_ ?_ ?_ ?_ (fun b hb q0 q1 q2 => (far b q0).trans (old b hb q1 q2)) (fun g hg' => ?_) (fun g hg' => ?_) (fun g hg' hg2 => ?_)
    (hg6.os.trans hg5.os) (hg6.tape.trans hg5.tape) (hg6.output.trans hg5.output)
  · exact setCell_block (o := 1) _ (setCell_block (o := 0) _ ((old rb hrb hn1 hn2).trans h.head))
  · refine ownsRow_block hC fun g hg' => ?_
    simp only [Value.ownBlock, Option.some.injEq] at hg'
    subst hg'
    exact (far g1 g1rb).trans (hg6.block g1 hl1 hne1)
  · exact ownsRow_block hP fun g hg' => far g (by simp only [Value.ownBlock, Option.some.injEq] at hg'; omega)
  · exact Nat.le_trans hg5.size (Nat.le_trans hg6.size (by simp [World.setCell]))
  · simp only [Value.ownBlock, Option.some.injEq] at hg'
    subst hg'; exact h1
  · have := hg5.size
    simp only [Value.ownBlock, Option.some.injEq] at hg'
    subst hg'
    exact h2.imp id (fun e => by omega)
  · simp only [Value.ownBlock, Option.some.injEq] at hg' hg2
    omega
end
end Go.Proofs.YtfanolcjgaccpaaDoor
