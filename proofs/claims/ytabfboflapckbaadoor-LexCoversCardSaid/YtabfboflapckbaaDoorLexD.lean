/- The law LexCovers: lexed; Tokens at a text that is too long. -/
import Derived.Test.YtabfboflapckbaaDoorLexT
namespace Go.Proofs.YtabfboflapckbaaDoor
open Go Go.RowKit
set_option maxRecDepth 100000

theorem tokens_big (w : World) (text : ByteArray) (hm : 3000 < text.size) :
    Calls Tryd.prog 8 #[.string text] w fun e w' => e = .returned (.tuple #[.slice none 0 0, .iface 54 (.int .i64 4)]) ∧ w = w' := by
  have hm' : (3000 : Int) < text.size := by omega
  go_enter Tryd.func8, Tryd.ntmps8
  go_wp2
  go_ret2
  exact ⟨rfl, rfl⟩
theorem tok_cell {w : World} {base : Nat} {v : Value} {l : List Tok} (h : w.ownsRow base 29 4 v l.length (l.flatMap Tok.cells)) {g : Nat} (hg : v.ownBlock = some g) {i j : Nat} {t : Tok} {x : Value} (hi : l[i]? = some t) (hj : t.cells[j]? = some x) :
    w.cell? ⟨g, i * 4 + j, none⟩ = some x := row_cell (f := Tok.cells) (fun _ => rfl) h hg hi hj
theorem lexed_toks : lexAll ⟨#[97, 32, 49]⟩ = .ok [⟨1, ⟨#[97]⟩, 0, 0⟩, ⟨3, ⟨#[]⟩, 1, 2⟩, ⟨6, ⟨#[]⟩, 0, 3⟩] := by kernel_rfl

set_option maxHeartbeats 2000000 in
theorem lexed_any (w : World) (hW : Words w) :
    Calls Tryd.prog 9 #[] w fun e w' => e = .returned (.bool true) ∧ Below w.heap.size w w' := by
  have HC := tokens_any w ⟨#[97, 32, 49]⟩ (by decide) hW
  rw [lexed_toks] at HC
  have HC := Lib.hid HC
  clear hW
  go_enter Tryd.func9, Tryd.ntmps9
  go_wp2_with fail
  refine HC.out.mono ?_
  rintro e w1 ⟨⟨v, rfl, hO⟩, hB⟩
  rcases ownsRow_cases hO with ⟨_, h0⟩ | ⟨g, cap, rfl, h1, h2, h3⟩
  · exact absurd h0 (by decide)
  have c0 := tok_cell hO (g := g) rfl (i := 0) (j := 0) rfl rfl
  have c1 := tok_cell hO (g := g) rfl (i := 1) (j := 0) rfl rfl
  have c2 := tok_cell hO (g := g) rfl (i := 1) (j := 2) rfl rfl
  have c3 := tok_cell hO (g := g) rfl (i := 2) (j := 3) rfl rfl
  have HB := Lib.hid hB
  simp only [List.length_cons, List.length_nil, Nat.zero_mul, Nat.zero_add, Nat.one_mul, Nat.reduceMul, Nat.reduceAdd] at c0 c1 c2 c3 ⊢
  unfold maxLen at h2
  clear hO hB HC h1
  go_wp2
  go_ret
  exact ⟨rfl, HB.out⟩
end Go.Proofs.YtabfboflapckbaaDoor
