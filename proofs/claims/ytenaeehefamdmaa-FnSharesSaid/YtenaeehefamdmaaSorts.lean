/-
  The insertion sort of the library's stable sort, by the kit's contract.
  Conditions: as the contract says.
-/
import Derived.Test.YtenaeehefamdmaaBase
import Derived.Shelf.SlSortCmp.Insertion1
namespace Go.Proofs.Ytenaeehefamdmaa.Sorts
open Go.Shelf Go.RowKit Go.Lib Go.Sort
set_option linter.unusedVariables false

def ren20 : Go.Shelf.Ren := ⟨fun | 20 => 57 | n => n, fun | 22 => 63 | 24 => 3 | 25 => 65 | 3 => 3 | 4 => 4 | n => n, fun | n => n⟩
theorem lays20 : Go.Proofs.SlLaysF.n20 Try.prog ren20 := {
  mixed := by kernel_rfl
  f20 := ⟨Try.f57.name, by decide, Try.func57.trans (congrArg some (by kernel_rfl))⟩
  t0 := Try.underlying0
  a0 := Try.isAgg0
  z0 := Try.sizeOf0
  v0 := Try.zeroValue0
  t3 := Try.underlying3
  a3 := Try.isAgg3
  z3 := Try.sizeOf3
  v3 := Try.zeroValue3
  t4 := Try.underlying4
  a4 := Try.isAgg4
  z4 := Try.sizeOf4
  v4 := Try.zeroValue4
  t22 := Try.underlying63
  a22 := Try.isAgg63
  z22 := Try.sizeOf63
  v22 := Try.zeroValue63
  a24 := Try.isAgg3
  z24 := Try.sizeOf3
  t25 := Try.underlying65
  a25 := Try.isAgg65
  z25 := Try.sizeOf65
  v25 := Try.zeroValue65 }
end Go.Proofs.Ytenaeehefamdmaa.Sorts
