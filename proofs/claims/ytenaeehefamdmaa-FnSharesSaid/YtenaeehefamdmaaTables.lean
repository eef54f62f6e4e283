/-
  Contracts of the laws' own helpers on tables (a first age and a slice): sizes, copies, comparison.
  Conditions: a slice has at most 1048576 elements.
-/
import Derived.Test.YtenaeehefamdmaaHelpers
namespace Go.Proofs.Ytenaeehefamdmaa.Tables
open Go.RowKit Mem
set_option linter.unusedVariables false

end Go.Proofs.Ytenaeehefamdmaa.Tables
