/-
  Contracts of the texts of numbers, months and money of both packages.
  Conditions: the library's table of powers of ten reads as its text lays it (Tab).
-/
import Derived.Test.YtfnmomdjmhbffaaDoorTexts
import Derived.Test.YtfnmomdjmhbffaaDoorTextPlain
import Derived.Test.YtfnmomdjmhbffaaDoorShelf
import Derived.Lib.AppendIntMem
namespace Go.Proofs.YtfnmomdjmhbffaaDoor.Texts
open Go.RowKit Mem TextPlain
set_option linter.unusedVariables false

/-- The library's table reads as it should, whatever happens from block B on. -/
def Tab (B : Nat) (w : World) : Prop := B ≤ w.heap.size ∧ Lib.TabBelow Tryd.prog B w "internal/strconv.uint64pow10" .u64 Lib.pow10Tab
theorem Tab.below {B : Nat} {w w' : World} (h : Tab B w) (g : Below w.heap.size w w') : Tab B w' :=
  ⟨Nat.le_trans h.1 g.size, h.2.on (g.mono h.1)⟩

theorem decimal_any (n : Int) (B : Nat) (w : World) (hT : Tab B w) (h0 : -9223372036854775808 ≤ n) (h1 : n ≤ 9223372036854775807) :
    Calls Tryd.prog 39 #[.int .i64 n] w fun e w' => e = .returned (.string (S (Lib.itoa n))) ∧ Below w.heap.size w w' := by
  have C := Lib.hid (Tryd.strconv_FormatInt_10 n h0 h1 w hT.2.here)
  clear hT
  go_enter Tryd.func39, Tryd.ntmps39
  go_wp2_with fail
  refine C.out.mono ?_; rintro e w1 ⟨rfl, k, os, rfl⟩
  go_wp2
  go_ret
  exact ⟨rfl, Lib.below_grow _ _ (Nat.le_refl _) _ _⟩

end Go.Proofs.YtfnmomdjmhbffaaDoor.Texts
