/-
  What a row's list of variables gives: the library's table of powers of ten.
  Conditions: the list holds it.
-/
import Derived.Test.YtfnmomdjmhbffaaDoorTexts2
import Derived.Test.YtfnmomdjmhbffaaDoorRows
import Derived.LaidSub
import Derived.Lib.LaidTab
namespace Go.Proofs.YtfnmomdjmhbffaaDoor.LaidTabs
open Go.RowKit Texts
set_option linter.unusedVariables false

theorem gPow : Tryd.prog.globalNamed "internal/strconv.uint64pow10" = some 5 := by kernel_rfl
theorem tPow : (Tryd.prog.globals[5]?).map (·.type) = some 108 := by kernel_rfl
theorem cPow : Tryd.prog.cellsOf 108 = 20 := by kernel_rfl
theorem cU64 : Tryd.prog.cellsOf 56 = 1 := by kernel_rfl

theorem tab_of {l : List (String × DataW Unit)} {W : World} (h : laidMetH Tryd.prog l W)
    (hl : (l.filter fun x => x.1 == "internal/strconv.uint64pow10") = [("internal/strconv.uint64pow10", Lib.tabData .u64 Lib.pow10Tab)]) : Tab W.heap.size W := by
  have h2 := laidMetH.filter (fun x => x.1 == "internal/strconv.uint64pow10") h
  rw [hl] at h2
  exact ⟨Nat.le_refl _, Lib.tabBelow_of_tabIs (Lib.tabIs_of_head (rest := []) gPow tPow Tryd.underlying108 Tryd.underlying56 cU64 cPow h2)⟩
end Go.Proofs.YtfnmomdjmhbffaaDoor.LaidTabs
