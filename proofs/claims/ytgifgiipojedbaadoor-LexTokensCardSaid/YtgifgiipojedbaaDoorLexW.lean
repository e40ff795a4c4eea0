/- Package lex: words of the language. -/
import Derived.Test.YtgifgiipojedbaaDoorRows
import Derived.Test.YtgifgiipojedbaaDoorShelfC
import Derived.WalkKit
import Derived.Lib.Hide
namespace Go.Proofs.YtgifgiipojedbaaDoor
open Go Go.RowKit
set_option maxRecDepth 100000

def wordsL : List ByteArray := match (Rows.laid_sloppyscope_lex_wordList : DataW Unit) with
  | .agg l => l.map fun
    | .lit (.string bs) => ⟨bs.toArray⟩
    | _ => ⟨#[]⟩
  | _ => []
theorem wordsL_len : wordsL.length = 19 := by kernel_rfl
def isWordB (s : ByteArray) : Bool := Lib.containsS wordsL s
/-- the list of words lies as it is laid -/
def Words (w : World) : Prop := ∀ j, j < 19 → w.cell? ⟨2, j, none⟩ = some (.string (wordsL.getD j ByteArray.empty))
theorem isWord_any (w : World) (s : ByteArray) (hW : Words w) :
    Calls Tryd.prog 78 #[.string s] w fun e w' => e = .returned (.bool (isWordB s)) ∧ w' = w := by
  have HC := Tryd.slices_Contains_string 2 0 19 19 wordsL s w (by rw [wordsL_len]; omega) (by omega) (fun j hj => by rw [Nat.zero_add]; exact hW j (by rw [wordsL_len] at hj; exact hj))
  rw [show wordsL.take 19 = wordsL by rw [← wordsL_len]; exact List.take_length] at HC
  have HC := Lib.hid HC
  clear hW
  unfold isWordB
  generalize Lib.containsS wordsL s = B at HC ⊢
  go_enter Tryd.func78, Tryd.ntmps78
  go_wp2_with fail
  refine HC.out.mono ?_
  rintro e w1 ⟨rfl, rfl⟩
  go_wp2
  go_ret
  exact ⟨rfl, rfl⟩
end Go.Proofs.YtgifgiipojedbaaDoor
