/-
  No cell of these rows narrows 'for every input' (looked for: loops, veiled, ifaces, maps, wideKeys, modest, calm, conditions, laid).
  DERIVED. THE GIVEN ROWS OF THIS SEAT. 12 by the template 'for every input the law returns true; each argument reads behind the call as it read before'; 0 by the template 'total and deterministic' (their statements: YtfejlclakdonmaaTotals.lean).
  GIVEN WITH THE SEED: the statements are not yours to turn. If you find one false, say at which input.
  Laid BY PROGRAM, IN A SANDBOX (cutbox-rows.mjs): the forced cells as the released guide's own fill.sh prints them over the translation d657cc0a6c0309c2… (all of the seat's roots in one cut). By AI agents, Wed Nov 11 2026. No macro, syntax, notation, axiom, sorry.
-/
import Derived.Test.YtfejlclakdonmaaChecked
import GoSem.Claim
import GoSem.ClaimJoined
import GoSem.ClaimMapViews
import Derived.JoinedTies
import Derived.KernelRfl
namespace Go.Proofs.Ytfejlclakdonmaa
/- THE CELL 'sum', in the pinned program and in every row, IS THE sha256 OF THE DUMP (.gsa) THAT YtfejlclakdonmaaProg.lean LOADS. Nothing in Lean hashes anything: it is a label: what it is worth is what the hold of that sum in a sandbox is worth. -/
noncomputable def Try.pinned : Pinned := { name := "ytfejlclakdonmaa", sum := "d657cc0a6c0309c2683a2283e11069db771bbcc04c7492b78a6cee5e4ba3fbde", checked := Try.checked }
namespace Rows
def none {H : Type} : Left H := { results := [], args := [] }

/-- 'laws.FnExactConstants': WHATEVER THE INPUT: true; the input reads as it did. -/
def fnExactConstantsSpec : ChangeSpec := { name := "fnExactConstants", fn := fun _ => fun
  | [] => { results := [.lit (.bool true)], args := [] }
  | _ => none }
def fnExactConstantsRow : OpenClaim := { program := "ytfejlclakdonmaa", sum := "d657cc0a6c0309c2683a2283e11069db771bbcc04c7492b78a6cee5e4ba3fbde", func := "loop.example/g01025/laws.FnExactConstants", spec := "fnExactConstants", apart := false }
def FnExactConstantsSaid : Prop := fnExactConstantsRow.holds Try.pinned (OpenSpec.ofChange fnExactConstantsSpec)

/-- ITS FALSE NEIGHBOUR: 'it returns false'. Refute it at one input. -/
def fnExactConstantsWrong : ChangeSpec := { name := "fnExactConstants", fn := fun _ => fun
  | [] => { results := [.lit (.bool false)], args := [] }
  | _ => none }
def FnExactConstantsWrongFalsely : Prop := fnExactConstantsRow.holds Try.pinned (OpenSpec.ofChange fnExactConstantsWrong)

/-- 'laws.FnExactMonthOf': WHATEVER THE INPUT: true; the input reads as it did. -/
def fnExactMonthOfSpec : ChangeSpec := { name := "fnExactMonthOf", fn := fun _ => fun
  | [d1, d2] => { results := [.lit (.bool true)], args := [d1, d2] }
  | _ => none }
def fnExactMonthOfRow : OpenClaim := { program := "ytfejlclakdonmaa", sum := "d657cc0a6c0309c2683a2283e11069db771bbcc04c7492b78a6cee5e4ba3fbde", func := "loop.example/g01025/laws.FnExactMonthOf", spec := "fnExactMonthOf", apart := false }
def FnExactMonthOfSaid : Prop := fnExactMonthOfRow.holds Try.pinned (OpenSpec.ofChange fnExactMonthOfSpec)

/-- ITS FALSE NEIGHBOUR: 'it returns false'. Refute it at one input. -/
def fnExactMonthOfWrong : ChangeSpec := { name := "fnExactMonthOf", fn := fun _ => fun
  | [d1, d2] => { results := [.lit (.bool false)], args := [d1, d2] }
  | _ => none }
def FnExactMonthOfWrongFalsely : Prop := fnExactMonthOfRow.holds Try.pinned (OpenSpec.ofChange fnExactMonthOfWrong)

/-- 'laws.FnExactYearOf': WHATEVER THE INPUT: true; the input reads as it did. -/
def fnExactYearOfSpec : ChangeSpec := { name := "fnExactYearOf", fn := fun _ => fun
  | [d] => { results := [.lit (.bool true)], args := [d] }
  | _ => none }
def fnExactYearOfRow : OpenClaim := { program := "ytfejlclakdonmaa", sum := "d657cc0a6c0309c2683a2283e11069db771bbcc04c7492b78a6cee5e4ba3fbde", func := "loop.example/g01025/laws.FnExactYearOf", spec := "fnExactYearOf", apart := false }
def FnExactYearOfSaid : Prop := fnExactYearOfRow.holds Try.pinned (OpenSpec.ofChange fnExactYearOfSpec)

/-- ITS FALSE NEIGHBOUR: 'it returns false'. Refute it at one input. -/
def fnExactYearOfWrong : ChangeSpec := { name := "fnExactYearOf", fn := fun _ => fun
  | [d] => { results := [.lit (.bool false)], args := [d] }
  | _ => none }
def FnExactYearOfWrongFalsely : Prop := fnExactYearOfRow.holds Try.pinned (OpenSpec.ofChange fnExactYearOfWrong)

/-- 'laws.FnExactAddMonths': WHATEVER THE INPUT: true; the input reads as it did. -/
def fnExactAddMonthsSpec : ChangeSpec := { name := "fnExactAddMonths", fn := fun _ => fun
  | [d1, d2] => { results := [.lit (.bool true)], args := [d1, d2] }
  | _ => none }
def fnExactAddMonthsRow : OpenClaim := { program := "ytfejlclakdonmaa", sum := "d657cc0a6c0309c2683a2283e11069db771bbcc04c7492b78a6cee5e4ba3fbde", func := "loop.example/g01025/laws.FnExactAddMonths", spec := "fnExactAddMonths", apart := false }
def FnExactAddMonthsSaid : Prop := fnExactAddMonthsRow.holds Try.pinned (OpenSpec.ofChange fnExactAddMonthsSpec)

/-- ITS FALSE NEIGHBOUR: 'it returns false'. Refute it at one input. -/
def fnExactAddMonthsWrong : ChangeSpec := { name := "fnExactAddMonths", fn := fun _ => fun
  | [d1, d2] => { results := [.lit (.bool false)], args := [d1, d2] }
  | _ => none }
def FnExactAddMonthsWrongFalsely : Prop := fnExactAddMonthsRow.holds Try.pinned (OpenSpec.ofChange fnExactAddMonthsWrong)

/-- 'laws.FnExactCommonFactor': WHATEVER THE INPUT: true; the input reads as it did. -/
def fnExactCommonFactorSpec : ChangeSpec := { name := "fnExactCommonFactor", fn := fun _ => fun
  | [d1, d2] => { results := [.lit (.bool true)], args := [d1, d2] }
  | _ => none }
def fnExactCommonFactorRow : OpenClaim := { program := "ytfejlclakdonmaa", sum := "d657cc0a6c0309c2683a2283e11069db771bbcc04c7492b78a6cee5e4ba3fbde", func := "loop.example/g01025/laws.FnExactCommonFactor", spec := "fnExactCommonFactor", recurses := true, apart := false }
def FnExactCommonFactorSaid : Prop := fnExactCommonFactorRow.holds Try.pinned (OpenSpec.ofChange fnExactCommonFactorSpec)

/-- ITS FALSE NEIGHBOUR: 'it returns false'. Refute it at one input. -/
def fnExactCommonFactorWrong : ChangeSpec := { name := "fnExactCommonFactor", fn := fun _ => fun
  | [d1, d2] => { results := [.lit (.bool false)], args := [d1, d2] }
  | _ => none }
def FnExactCommonFactorWrongFalsely : Prop := fnExactCommonFactorRow.holds Try.pinned (OpenSpec.ofChange fnExactCommonFactorWrong)

/-- 'laws.FnExactDivideDown': WHATEVER THE INPUT: true; the input reads as it did. -/
def fnExactDivideDownSpec : ChangeSpec := { name := "fnExactDivideDown", fn := fun _ => fun
  | [d1, d2] => { results := [.lit (.bool true)], args := [d1, d2] }
  | _ => none }
def fnExactDivideDownRow : OpenClaim := { program := "ytfejlclakdonmaa", sum := "d657cc0a6c0309c2683a2283e11069db771bbcc04c7492b78a6cee5e4ba3fbde", func := "loop.example/g01025/laws.FnExactDivideDown", spec := "fnExactDivideDown", apart := false }
def FnExactDivideDownSaid : Prop := fnExactDivideDownRow.holds Try.pinned (OpenSpec.ofChange fnExactDivideDownSpec)

/-- ITS FALSE NEIGHBOUR: 'it returns false'. Refute it at one input. -/
def fnExactDivideDownWrong : ChangeSpec := { name := "fnExactDivideDown", fn := fun _ => fun
  | [d1, d2] => { results := [.lit (.bool false)], args := [d1, d2] }
  | _ => none }
def FnExactDivideDownWrongFalsely : Prop := fnExactDivideDownRow.holds Try.pinned (OpenSpec.ofChange fnExactDivideDownWrong)

/-- 'laws.FnExactPerMille': WHATEVER THE INPUT: true; the input reads as it did. -/
def fnExactPerMilleSpec : ChangeSpec := { name := "fnExactPerMille", fn := fun _ => fun
  | [d1, d2] => { results := [.lit (.bool true)], args := [d1, d2] }
  | _ => none }
def fnExactPerMilleRow : OpenClaim := { program := "ytfejlclakdonmaa", sum := "d657cc0a6c0309c2683a2283e11069db771bbcc04c7492b78a6cee5e4ba3fbde", func := "loop.example/g01025/laws.FnExactPerMille", spec := "fnExactPerMille", apart := false }
def FnExactPerMilleSaid : Prop := fnExactPerMilleRow.holds Try.pinned (OpenSpec.ofChange fnExactPerMilleSpec)

/-- ITS FALSE NEIGHBOUR: 'it returns false'. Refute it at one input. -/
def fnExactPerMilleWrong : ChangeSpec := { name := "fnExactPerMille", fn := fun _ => fun
  | [d1, d2] => { results := [.lit (.bool false)], args := [d1, d2] }
  | _ => none }
def FnExactPerMilleWrongFalsely : Prop := fnExactPerMilleRow.holds Try.pinned (OpenSpec.ofChange fnExactPerMilleWrong)

/-- 'laws.FnExactDivideUp': WHATEVER THE INPUT: true; the input reads as it did. -/
def fnExactDivideUpSpec : ChangeSpec := { name := "fnExactDivideUp", fn := fun _ => fun
  | [d1, d2] => { results := [.lit (.bool true)], args := [d1, d2] }
  | _ => none }
def fnExactDivideUpRow : OpenClaim := { program := "ytfejlclakdonmaa", sum := "d657cc0a6c0309c2683a2283e11069db771bbcc04c7492b78a6cee5e4ba3fbde", func := "loop.example/g01025/laws.FnExactDivideUp", spec := "fnExactDivideUp", apart := false }
def FnExactDivideUpSaid : Prop := fnExactDivideUpRow.holds Try.pinned (OpenSpec.ofChange fnExactDivideUpSpec)

/-- ITS FALSE NEIGHBOUR: 'it returns false'. Refute it at one input. -/
def fnExactDivideUpWrong : ChangeSpec := { name := "fnExactDivideUp", fn := fun _ => fun
  | [d1, d2] => { results := [.lit (.bool false)], args := [d1, d2] }
  | _ => none }
def FnExactDivideUpWrongFalsely : Prop := fnExactDivideUpRow.holds Try.pinned (OpenSpec.ofChange fnExactDivideUpWrong)

/-- 'laws.FnExactAgeIn': WHATEVER THE INPUT: true; the input reads as it did. -/
def fnExactAgeInSpec : ChangeSpec := { name := "fnExactAgeIn", fn := fun _ => fun
  | [d1, d2] => { results := [.lit (.bool true)], args := [d1, d2] }
  | _ => none }
def fnExactAgeInRow : OpenClaim := { program := "ytfejlclakdonmaa", sum := "d657cc0a6c0309c2683a2283e11069db771bbcc04c7492b78a6cee5e4ba3fbde", func := "loop.example/g01025/laws.FnExactAgeIn", spec := "fnExactAgeIn", apart := false }
def FnExactAgeInSaid : Prop := fnExactAgeInRow.holds Try.pinned (OpenSpec.ofChange fnExactAgeInSpec)

/-- ITS FALSE NEIGHBOUR: 'it returns false'. Refute it at one input. -/
def fnExactAgeInWrong : ChangeSpec := { name := "fnExactAgeIn", fn := fun _ => fun
  | [d1, d2] => { results := [.lit (.bool false)], args := [d1, d2] }
  | _ => none }
def FnExactAgeInWrongFalsely : Prop := fnExactAgeInRow.holds Try.pinned (OpenSpec.ofChange fnExactAgeInWrong)

/-- 'laws.FnExactFullYears': WHATEVER THE INPUT: true; the input reads as it did. -/
def fnExactFullYearsSpec : ChangeSpec := { name := "fnExactFullYears", fn := fun _ => fun
  | [d1, d2] => { results := [.lit (.bool true)], args := [d1, d2] }
  | _ => none }
def fnExactFullYearsRow : OpenClaim := { program := "ytfejlclakdonmaa", sum := "d657cc0a6c0309c2683a2283e11069db771bbcc04c7492b78a6cee5e4ba3fbde", func := "loop.example/g01025/laws.FnExactFullYears", spec := "fnExactFullYears", apart := false }
def FnExactFullYearsSaid : Prop := fnExactFullYearsRow.holds Try.pinned (OpenSpec.ofChange fnExactFullYearsSpec)

/-- ITS FALSE NEIGHBOUR: 'it returns false'. Refute it at one input. -/
def fnExactFullYearsWrong : ChangeSpec := { name := "fnExactFullYears", fn := fun _ => fun
  | [d1, d2] => { results := [.lit (.bool false)], args := [d1, d2] }
  | _ => none }
def FnExactFullYearsWrongFalsely : Prop := fnExactFullYearsRow.holds Try.pinned (OpenSpec.ofChange fnExactFullYearsWrong)

/-- 'laws.FnExactNextBirthday': WHATEVER THE INPUT: true; the input reads as it did. -/
def fnExactNextBirthdaySpec : ChangeSpec := { name := "fnExactNextBirthday", fn := fun _ => fun
  | [d1, d2] => { results := [.lit (.bool true)], args := [d1, d2] }
  | _ => none }
def fnExactNextBirthdayRow : OpenClaim := { program := "ytfejlclakdonmaa", sum := "d657cc0a6c0309c2683a2283e11069db771bbcc04c7492b78a6cee5e4ba3fbde", func := "loop.example/g01025/laws.FnExactNextBirthday", spec := "fnExactNextBirthday", apart := false }
def FnExactNextBirthdaySaid : Prop := fnExactNextBirthdayRow.holds Try.pinned (OpenSpec.ofChange fnExactNextBirthdaySpec)

/-- ITS FALSE NEIGHBOUR: 'it returns false'. Refute it at one input. -/
def fnExactNextBirthdayWrong : ChangeSpec := { name := "fnExactNextBirthday", fn := fun _ => fun
  | [d1, d2] => { results := [.lit (.bool false)], args := [d1, d2] }
  | _ => none }
def FnExactNextBirthdayWrongFalsely : Prop := fnExactNextBirthdayRow.holds Try.pinned (OpenSpec.ofChange fnExactNextBirthdayWrong)

/-- 'laws.FnExactMultiplyDivide': WHATEVER THE INPUT: true; the input reads as it did. -/
def fnExactMultiplyDivideSpec : ChangeSpec := { name := "fnExactMultiplyDivide", fn := fun _ => fun
  | [d1, d2, d3] => { results := [.lit (.bool true)], args := [d1, d2, d3] }
  | _ => none }
def fnExactMultiplyDivideRow : OpenClaim := { program := "ytfejlclakdonmaa", sum := "d657cc0a6c0309c2683a2283e11069db771bbcc04c7492b78a6cee5e4ba3fbde", func := "loop.example/g01025/laws.FnExactMultiplyDivide", spec := "fnExactMultiplyDivide", named := ["math/bits.divideError", "math/bits.overflowError"], apart := false }
def FnExactMultiplyDivideSaid : Prop := fnExactMultiplyDivideRow.holds Try.pinned (OpenSpec.ofChange fnExactMultiplyDivideSpec)

/-- ITS FALSE NEIGHBOUR: 'it returns false'. Refute it at one input. -/
def fnExactMultiplyDivideWrong : ChangeSpec := { name := "fnExactMultiplyDivide", fn := fun _ => fun
  | [d1, d2, d3] => { results := [.lit (.bool false)], args := [d1, d2, d3] }
  | _ => none }
def FnExactMultiplyDivideWrongFalsely : Prop := fnExactMultiplyDivideRow.holds Try.pinned (OpenSpec.ofChange fnExactMultiplyDivideWrong)

/- THE SECOND FORM. 'bulk': how many values and letters a reading holds, each counted each time it is reached (what is shared counts as often as it is met; a slice's spare places count too). A statement '..UptoSaid' is the law's where the arguments, and the package variables that the reading takes, are together of bulk at most 1048576: NARROWER than '..Said'. Prove '..Said' where nothing that the law and all that it calls make is longer than what came in: it says more and counts as full. Else prove '..UptoSaid'. A law counts once. -/
mutual
def uptoBulk {H : Type} : DataW H → Nat
  | .lit (.string bytes) => bytes.length + 1
  | .lit _ => 1
  | .nil => 1
  | .ptr d => uptoBulk d + 1
  | .slice elems spare => uptoBulkAll elems + uptoBulkAll spare + 1
  | .agg parts => uptoBulkAll parts + 1
  | .iface _ d => uptoBulk d + 1
  | .map entries => uptoBulkEntries entries + 1
  | .held _ => 1
def uptoBulkAll {H : Type} : List (DataW H) → Nat
  | [] => 0
  | d :: r => uptoBulk d + uptoBulkAll r
def uptoBulkEntries {H : Type} : List (Lit × DataW H) → Nat
  | [] => 0
  | x :: r => uptoBulkEntry x + uptoBulkEntries r
def uptoBulkEntry {H : Type} : Lit × DataW H → Nat
  | (.string bytes, d) => bytes.length + uptoBulk d + 1
  | (_, d) => uptoBulk d + 1
 end
def uptoSmall : (H : Type) → List (DataW H) → Bool := fun _ ds => decide (uptoBulkAll ds ≤ 1048576)
def OpenSpec.upto (s : _root_.Go.ChangeSpec) : _root_.Go.OpenSpec := { _root_.Go.OpenSpec.ofChange s with cond := some uptoSmall }

/-- 'laws.FnExactConstants', WHERE WHAT IT READS IS OF BULK AT MOST 1048576: true; the input reads as it did. -/
def fnExactConstantsUptoRow : OpenClaim := { program := "ytfejlclakdonmaa", sum := "d657cc0a6c0309c2683a2283e11069db771bbcc04c7492b78a6cee5e4ba3fbde", func := "loop.example/g01025/laws.FnExactConstants", spec := "fnExactConstants", apart := false, narrowed := true }
def FnExactConstantsUptoSaid : Prop := fnExactConstantsUptoRow.holds Try.pinned (OpenSpec.upto fnExactConstantsSpec)

/-- 'laws.FnExactMonthOf', WHERE WHAT IT READS IS OF BULK AT MOST 1048576: true; the input reads as it did. -/
def fnExactMonthOfUptoRow : OpenClaim := { program := "ytfejlclakdonmaa", sum := "d657cc0a6c0309c2683a2283e11069db771bbcc04c7492b78a6cee5e4ba3fbde", func := "loop.example/g01025/laws.FnExactMonthOf", spec := "fnExactMonthOf", apart := false, narrowed := true }
def FnExactMonthOfUptoSaid : Prop := fnExactMonthOfUptoRow.holds Try.pinned (OpenSpec.upto fnExactMonthOfSpec)

/-- 'laws.FnExactYearOf', WHERE WHAT IT READS IS OF BULK AT MOST 1048576: true; the input reads as it did. -/
def fnExactYearOfUptoRow : OpenClaim := { program := "ytfejlclakdonmaa", sum := "d657cc0a6c0309c2683a2283e11069db771bbcc04c7492b78a6cee5e4ba3fbde", func := "loop.example/g01025/laws.FnExactYearOf", spec := "fnExactYearOf", apart := false, narrowed := true }
def FnExactYearOfUptoSaid : Prop := fnExactYearOfUptoRow.holds Try.pinned (OpenSpec.upto fnExactYearOfSpec)

/-- 'laws.FnExactAddMonths', WHERE WHAT IT READS IS OF BULK AT MOST 1048576: true; the input reads as it did. -/
def fnExactAddMonthsUptoRow : OpenClaim := { program := "ytfejlclakdonmaa", sum := "d657cc0a6c0309c2683a2283e11069db771bbcc04c7492b78a6cee5e4ba3fbde", func := "loop.example/g01025/laws.FnExactAddMonths", spec := "fnExactAddMonths", apart := false, narrowed := true }
def FnExactAddMonthsUptoSaid : Prop := fnExactAddMonthsUptoRow.holds Try.pinned (OpenSpec.upto fnExactAddMonthsSpec)

/-- 'laws.FnExactCommonFactor', WHERE WHAT IT READS IS OF BULK AT MOST 1048576: true; the input reads as it did. -/
def fnExactCommonFactorUptoRow : OpenClaim := { program := "ytfejlclakdonmaa", sum := "d657cc0a6c0309c2683a2283e11069db771bbcc04c7492b78a6cee5e4ba3fbde", func := "loop.example/g01025/laws.FnExactCommonFactor", spec := "fnExactCommonFactor", recurses := true, apart := false, narrowed := true }
def FnExactCommonFactorUptoSaid : Prop := fnExactCommonFactorUptoRow.holds Try.pinned (OpenSpec.upto fnExactCommonFactorSpec)

/-- 'laws.FnExactDivideDown', WHERE WHAT IT READS IS OF BULK AT MOST 1048576: true; the input reads as it did. -/
def fnExactDivideDownUptoRow : OpenClaim := { program := "ytfejlclakdonmaa", sum := "d657cc0a6c0309c2683a2283e11069db771bbcc04c7492b78a6cee5e4ba3fbde", func := "loop.example/g01025/laws.FnExactDivideDown", spec := "fnExactDivideDown", apart := false, narrowed := true }
def FnExactDivideDownUptoSaid : Prop := fnExactDivideDownUptoRow.holds Try.pinned (OpenSpec.upto fnExactDivideDownSpec)

/-- 'laws.FnExactPerMille', WHERE WHAT IT READS IS OF BULK AT MOST 1048576: true; the input reads as it did. -/
def fnExactPerMilleUptoRow : OpenClaim := { program := "ytfejlclakdonmaa", sum := "d657cc0a6c0309c2683a2283e11069db771bbcc04c7492b78a6cee5e4ba3fbde", func := "loop.example/g01025/laws.FnExactPerMille", spec := "fnExactPerMille", apart := false, narrowed := true }
def FnExactPerMilleUptoSaid : Prop := fnExactPerMilleUptoRow.holds Try.pinned (OpenSpec.upto fnExactPerMilleSpec)

/-- 'laws.FnExactDivideUp', WHERE WHAT IT READS IS OF BULK AT MOST 1048576: true; the input reads as it did. -/
def fnExactDivideUpUptoRow : OpenClaim := { program := "ytfejlclakdonmaa", sum := "d657cc0a6c0309c2683a2283e11069db771bbcc04c7492b78a6cee5e4ba3fbde", func := "loop.example/g01025/laws.FnExactDivideUp", spec := "fnExactDivideUp", apart := false, narrowed := true }
def FnExactDivideUpUptoSaid : Prop := fnExactDivideUpUptoRow.holds Try.pinned (OpenSpec.upto fnExactDivideUpSpec)

/-- 'laws.FnExactAgeIn', WHERE WHAT IT READS IS OF BULK AT MOST 1048576: true; the input reads as it did. -/
def fnExactAgeInUptoRow : OpenClaim := { program := "ytfejlclakdonmaa", sum := "d657cc0a6c0309c2683a2283e11069db771bbcc04c7492b78a6cee5e4ba3fbde", func := "loop.example/g01025/laws.FnExactAgeIn", spec := "fnExactAgeIn", apart := false, narrowed := true }
def FnExactAgeInUptoSaid : Prop := fnExactAgeInUptoRow.holds Try.pinned (OpenSpec.upto fnExactAgeInSpec)

/-- 'laws.FnExactFullYears', WHERE WHAT IT READS IS OF BULK AT MOST 1048576: true; the input reads as it did. -/
def fnExactFullYearsUptoRow : OpenClaim := { program := "ytfejlclakdonmaa", sum := "d657cc0a6c0309c2683a2283e11069db771bbcc04c7492b78a6cee5e4ba3fbde", func := "loop.example/g01025/laws.FnExactFullYears", spec := "fnExactFullYears", apart := false, narrowed := true }
def FnExactFullYearsUptoSaid : Prop := fnExactFullYearsUptoRow.holds Try.pinned (OpenSpec.upto fnExactFullYearsSpec)

/-- 'laws.FnExactNextBirthday', WHERE WHAT IT READS IS OF BULK AT MOST 1048576: true; the input reads as it did. -/
def fnExactNextBirthdayUptoRow : OpenClaim := { program := "ytfejlclakdonmaa", sum := "d657cc0a6c0309c2683a2283e11069db771bbcc04c7492b78a6cee5e4ba3fbde", func := "loop.example/g01025/laws.FnExactNextBirthday", spec := "fnExactNextBirthday", apart := false, narrowed := true }
def FnExactNextBirthdayUptoSaid : Prop := fnExactNextBirthdayUptoRow.holds Try.pinned (OpenSpec.upto fnExactNextBirthdaySpec)

/-- 'laws.FnExactMultiplyDivide', WHERE WHAT IT READS IS OF BULK AT MOST 1048576: true; the input reads as it did. -/
def fnExactMultiplyDivideUptoRow : OpenClaim := { program := "ytfejlclakdonmaa", sum := "d657cc0a6c0309c2683a2283e11069db771bbcc04c7492b78a6cee5e4ba3fbde", func := "loop.example/g01025/laws.FnExactMultiplyDivide", spec := "fnExactMultiplyDivide", named := ["math/bits.divideError", "math/bits.overflowError"], apart := false, narrowed := true }
def FnExactMultiplyDivideUptoSaid : Prop := fnExactMultiplyDivideUptoRow.holds Try.pinned (OpenSpec.upto fnExactMultiplyDivideSpec)

end Rows
end Go.Proofs.Ytfejlclakdonmaa
