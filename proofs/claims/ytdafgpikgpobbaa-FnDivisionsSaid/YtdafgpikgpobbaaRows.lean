/-
  No cell of these rows narrows 'for every input' (looked for: loops, veiled, ifaces, maps, wideKeys, modest, calm, conditions, laid).
  DERIVED. THE GIVEN ROWS OF THIS SEAT. 8 by the template 'for every input the law returns true; each argument reads behind the call as it read before'; 0 by the template 'total and deterministic' (their statements: YtdafgpikgpobbaaTotals.lean).
  GIVEN WITH THE SEED: the statements are not yours to turn. If you find one false, say at which input.
  Laid BY PROGRAM, IN A SANDBOX (cutbox-rows.mjs): the forced cells as the released guide's own fill.sh prints them over the translation 7b8fe98c106b62b7… (all of the seat's roots in one cut). By AI agents, Wed Nov 11 2026. No macro, syntax, notation, axiom, sorry.
-/
import Derived.Test.YtdafgpikgpobbaaChecked
import GoSem.Claim
import GoSem.ClaimJoined
import GoSem.ClaimMapViews
import Derived.JoinedTies
import Derived.KernelRfl
namespace Go.Proofs.Ytdafgpikgpobbaa
/- THE CELL 'sum', in the pinned program and in every row, IS THE sha256 OF THE DUMP (.gsa) THAT YtdafgpikgpobbaaProg.lean LOADS. Nothing in Lean hashes anything: it is a label: what it is worth is what the hold of that sum in a sandbox is worth. -/
noncomputable def Try.pinned : Pinned := { name := "ytdafgpikgpobbaa", sum := "7b8fe98c106b62b7ce769c371002e7ac27c1266c540a0c7d8a026e6354204884", checked := Try.checked }
namespace Rows
def none {H : Type} : Left H := { results := [], args := [] }

/-- 'laws.FnFactors': WHATEVER THE INPUT: true; the input reads as it did. -/
def fnFactorsSpec : ChangeSpec := { name := "fnFactors", fn := fun _ => fun
  | [d] => { results := [.lit (.bool true)], args := [d] }
  | _ => none }
def fnFactorsRow : OpenClaim := { program := "ytdafgpikgpobbaa", sum := "7b8fe98c106b62b7ce769c371002e7ac27c1266c540a0c7d8a026e6354204884", func := "loop.example/g01025/laws.FnFactors", spec := "fnFactors", recurses := true, apart := false }
def FnFactorsSaid : Prop := fnFactorsRow.holds Try.pinned (OpenSpec.ofChange fnFactorsSpec)

/-- ITS FALSE NEIGHBOUR: 'it returns false'. Refute it at one input. -/
def fnFactorsWrong : ChangeSpec := { name := "fnFactors", fn := fun _ => fun
  | [d] => { results := [.lit (.bool false)], args := [d] }
  | _ => none }
def FnFactorsWrongFalsely : Prop := fnFactorsRow.holds Try.pinned (OpenSpec.ofChange fnFactorsWrong)

/-- 'laws.FnRounding': WHATEVER THE INPUT: true; the input reads as it did. -/
def fnRoundingSpec : ChangeSpec := { name := "fnRounding", fn := fun _ => fun
  | [d] => { results := [.lit (.bool true)], args := [d] }
  | _ => none }
def fnRoundingRow : OpenClaim := { program := "ytdafgpikgpobbaa", sum := "7b8fe98c106b62b7ce769c371002e7ac27c1266c540a0c7d8a026e6354204884", func := "loop.example/g01025/laws.FnRounding", spec := "fnRounding", apart := false }
def FnRoundingSaid : Prop := fnRoundingRow.holds Try.pinned (OpenSpec.ofChange fnRoundingSpec)

/-- ITS FALSE NEIGHBOUR: 'it returns false'. Refute it at one input. -/
def fnRoundingWrong : ChangeSpec := { name := "fnRounding", fn := fun _ => fun
  | [d] => { results := [.lit (.bool false)], args := [d] }
  | _ => none }
def FnRoundingWrongFalsely : Prop := fnRoundingRow.holds Try.pinned (OpenSpec.ofChange fnRoundingWrong)

/-- 'laws.FnAges': WHATEVER THE INPUT: true; the input reads as it did. -/
def fnAgesSpec : ChangeSpec := { name := "fnAges", fn := fun _ => fun
  | [d] => { results := [.lit (.bool true)], args := [d] }
  | _ => none }
def fnAgesRow : OpenClaim := { program := "ytdafgpikgpobbaa", sum := "7b8fe98c106b62b7ce769c371002e7ac27c1266c540a0c7d8a026e6354204884", func := "loop.example/g01025/laws.FnAges", spec := "fnAges", apart := false }
def FnAgesSaid : Prop := fnAgesRow.holds Try.pinned (OpenSpec.ofChange fnAgesSpec)

/-- ITS FALSE NEIGHBOUR: 'it returns false'. Refute it at one input. -/
def fnAgesWrong : ChangeSpec := { name := "fnAges", fn := fun _ => fun
  | [d] => { results := [.lit (.bool false)], args := [d] }
  | _ => none }
def FnAgesWrongFalsely : Prop := fnAgesRow.holds Try.pinned (OpenSpec.ofChange fnAgesWrong)

/-- 'laws.FnDivisions': WHATEVER THE INPUT: true; the input reads as it did. -/
def fnDivisionsSpec : ChangeSpec := { name := "fnDivisions", fn := fun _ => fun
  | [d] => { results := [.lit (.bool true)], args := [d] }
  | _ => none }
def fnDivisionsRow : OpenClaim := { program := "ytdafgpikgpobbaa", sum := "7b8fe98c106b62b7ce769c371002e7ac27c1266c540a0c7d8a026e6354204884", func := "loop.example/g01025/laws.FnDivisions", spec := "fnDivisions", named := ["math/bits.divideError", "math/bits.overflowError"], apart := false }
def FnDivisionsSaid : Prop := fnDivisionsRow.holds Try.pinned (OpenSpec.ofChange fnDivisionsSpec)

/-- ITS FALSE NEIGHBOUR: 'it returns false'. Refute it at one input. -/
def fnDivisionsWrong : ChangeSpec := { name := "fnDivisions", fn := fun _ => fun
  | [d] => { results := [.lit (.bool false)], args := [d] }
  | _ => none }
def FnDivisionsWrongFalsely : Prop := fnDivisionsRow.holds Try.pinned (OpenSpec.ofChange fnDivisionsWrong)

/-- 'laws.FnGrowth': WHATEVER THE INPUT: true; the input reads as it did. -/
def fnGrowthSpec : ChangeSpec := { name := "fnGrowth", fn := fun _ => fun
  | [d] => { results := [.lit (.bool true)], args := [d] }
  | _ => none }
def fnGrowthRow : OpenClaim := { program := "ytdafgpikgpobbaa", sum := "7b8fe98c106b62b7ce769c371002e7ac27c1266c540a0c7d8a026e6354204884", func := "loop.example/g01025/laws.FnGrowth", spec := "fnGrowth", apart := false }
def FnGrowthSaid : Prop := fnGrowthRow.holds Try.pinned (OpenSpec.ofChange fnGrowthSpec)

/-- ITS FALSE NEIGHBOUR: 'it returns false'. Refute it at one input. -/
def fnGrowthWrong : ChangeSpec := { name := "fnGrowth", fn := fun _ => fun
  | [d] => { results := [.lit (.bool false)], args := [d] }
  | _ => none }
def FnGrowthWrongFalsely : Prop := fnGrowthRow.holds Try.pinned (OpenSpec.ofChange fnGrowthWrong)

/-- 'laws.FnLoans': WHATEVER THE INPUT: true; the input reads as it did. -/
def fnLoansSpec : ChangeSpec := { name := "fnLoans", fn := fun _ => fun
  | [d] => { results := [.lit (.bool true)], args := [d] }
  | _ => none }
def fnLoansRow : OpenClaim := { program := "ytdafgpikgpobbaa", sum := "7b8fe98c106b62b7ce769c371002e7ac27c1266c540a0c7d8a026e6354204884", func := "loop.example/g01025/laws.FnLoans", spec := "fnLoans", apart := false }
def FnLoansSaid : Prop := fnLoansRow.holds Try.pinned (OpenSpec.ofChange fnLoansSpec)

/-- ITS FALSE NEIGHBOUR: 'it returns false'. Refute it at one input. -/
def fnLoansWrong : ChangeSpec := { name := "fnLoans", fn := fun _ => fun
  | [d] => { results := [.lit (.bool false)], args := [d] }
  | _ => none }
def FnLoansWrongFalsely : Prop := fnLoansRow.holds Try.pinned (OpenSpec.ofChange fnLoansWrong)

/-- 'laws.FnDiscounts': WHATEVER THE INPUT: true; the input reads as it did. -/
def fnDiscountsSpec : ChangeSpec := { name := "fnDiscounts", fn := fun _ => fun
  | [d] => { results := [.lit (.bool true)], args := [d] }
  | _ => none }
def fnDiscountsRow : OpenClaim := { program := "ytdafgpikgpobbaa", sum := "7b8fe98c106b62b7ce769c371002e7ac27c1266c540a0c7d8a026e6354204884", func := "loop.example/g01025/laws.FnDiscounts", spec := "fnDiscounts", unfollowed := true, recurses := true, apart := false }
def FnDiscountsSaid : Prop := fnDiscountsRow.holds Try.pinned (OpenSpec.ofChange fnDiscountsSpec)

/-- ITS FALSE NEIGHBOUR: 'it returns false'. Refute it at one input. -/
def fnDiscountsWrong : ChangeSpec := { name := "fnDiscounts", fn := fun _ => fun
  | [d] => { results := [.lit (.bool false)], args := [d] }
  | _ => none }
def FnDiscountsWrongFalsely : Prop := fnDiscountsRow.holds Try.pinned (OpenSpec.ofChange fnDiscountsWrong)

/-- 'laws.FnExactMultiplyDivide': WHATEVER THE INPUT: true; the input reads as it did. -/
def fnExactMultiplyDivideSpec : ChangeSpec := { name := "fnExactMultiplyDivide", fn := fun _ => fun
  | [d1, d2, d3] => { results := [.lit (.bool true)], args := [d1, d2, d3] }
  | _ => none }
def fnExactMultiplyDivideRow : OpenClaim := { program := "ytdafgpikgpobbaa", sum := "7b8fe98c106b62b7ce769c371002e7ac27c1266c540a0c7d8a026e6354204884", func := "loop.example/g01025/laws.FnExactMultiplyDivide", spec := "fnExactMultiplyDivide", named := ["math/bits.divideError", "math/bits.overflowError"], apart := false }
def FnExactMultiplyDivideSaid : Prop := fnExactMultiplyDivideRow.holds Try.pinned (OpenSpec.ofChange fnExactMultiplyDivideSpec)

/-- ITS FALSE NEIGHBOUR: 'it returns false'. Refute it at one input. -/
def fnExactMultiplyDivideWrong : ChangeSpec := { name := "fnExactMultiplyDivide", fn := fun _ => fun
  | [d1, d2, d3] => { results := [.lit (.bool false)], args := [d1, d2, d3] }
  | _ => none }
def FnExactMultiplyDivideWrongFalsely : Prop := fnExactMultiplyDivideRow.holds Try.pinned (OpenSpec.ofChange fnExactMultiplyDivideWrong)

/- THE SECOND FORM. 'bulk': how many values and letters a reading holds, each counted each time it is reached (what is shared counts as often as it is met; a slice's spare places count too). A statement '..UptoSaid' is the law's where the arguments, and the package variables that the reading takes, are together of bulk at most 1048576: NARROWER than '..Said'. Prove '..Said' where nothing that the law and all that it calls make is longer than what came in: it says more and counts as full. Else prove '..UptoSaid'. A law counts once. -/
mutual
def uptoBulk {H : Type} : DataW H → Nat
  | .lit (.string bytes) => bytes.length + 1
  | .lit _ => 1
  | .nil => 1
  | .ptr d => uptoBulk d + 1
  | .slice elems spare => uptoBulkAll elems + uptoBulkAll spare + 1
  | .agg parts => uptoBulkAll parts + 1
  | .iface _ d => uptoBulk d + 1
  | .map entries => uptoBulkEntries entries + 1
  | .held _ => 1
def uptoBulkAll {H : Type} : List (DataW H) → Nat
  | [] => 0
  | d :: r => uptoBulk d + uptoBulkAll r
def uptoBulkEntries {H : Type} : List (Lit × DataW H) → Nat
  | [] => 0
  | x :: r => uptoBulkEntry x + uptoBulkEntries r
def uptoBulkEntry {H : Type} : Lit × DataW H → Nat
  | (.string bytes, d) => bytes.length + uptoBulk d + 1
  | (_, d) => uptoBulk d + 1
 end
def uptoSmall : (H : Type) → List (DataW H) → Bool := fun _ ds => decide (uptoBulkAll ds ≤ 1048576)
def OpenSpec.upto (s : _root_.Go.ChangeSpec) : _root_.Go.OpenSpec := { _root_.Go.OpenSpec.ofChange s with cond := some uptoSmall }

/-- 'laws.FnFactors', WHERE WHAT IT READS IS OF BULK AT MOST 1048576: true; the input reads as it did. -/
def fnFactorsUptoRow : OpenClaim := { program := "ytdafgpikgpobbaa", sum := "7b8fe98c106b62b7ce769c371002e7ac27c1266c540a0c7d8a026e6354204884", func := "loop.example/g01025/laws.FnFactors", spec := "fnFactors", recurses := true, apart := false, narrowed := true }
def FnFactorsUptoSaid : Prop := fnFactorsUptoRow.holds Try.pinned (OpenSpec.upto fnFactorsSpec)

/-- 'laws.FnRounding', WHERE WHAT IT READS IS OF BULK AT MOST 1048576: true; the input reads as it did. -/
def fnRoundingUptoRow : OpenClaim := { program := "ytdafgpikgpobbaa", sum := "7b8fe98c106b62b7ce769c371002e7ac27c1266c540a0c7d8a026e6354204884", func := "loop.example/g01025/laws.FnRounding", spec := "fnRounding", apart := false, narrowed := true }
def FnRoundingUptoSaid : Prop := fnRoundingUptoRow.holds Try.pinned (OpenSpec.upto fnRoundingSpec)

/-- 'laws.FnAges', WHERE WHAT IT READS IS OF BULK AT MOST 1048576: true; the input reads as it did. -/
def fnAgesUptoRow : OpenClaim := { program := "ytdafgpikgpobbaa", sum := "7b8fe98c106b62b7ce769c371002e7ac27c1266c540a0c7d8a026e6354204884", func := "loop.example/g01025/laws.FnAges", spec := "fnAges", apart := false, narrowed := true }
def FnAgesUptoSaid : Prop := fnAgesUptoRow.holds Try.pinned (OpenSpec.upto fnAgesSpec)

/-- 'laws.FnDivisions', WHERE WHAT IT READS IS OF BULK AT MOST 1048576: true; the input reads as it did. -/
def fnDivisionsUptoRow : OpenClaim := { program := "ytdafgpikgpobbaa", sum := "7b8fe98c106b62b7ce769c371002e7ac27c1266c540a0c7d8a026e6354204884", func := "loop.example/g01025/laws.FnDivisions", spec := "fnDivisions", named := ["math/bits.divideError", "math/bits.overflowError"], apart := false, narrowed := true }
def FnDivisionsUptoSaid : Prop := fnDivisionsUptoRow.holds Try.pinned (OpenSpec.upto fnDivisionsSpec)

/-- 'laws.FnGrowth', WHERE WHAT IT READS IS OF BULK AT MOST 1048576: true; the input reads as it did. -/
def fnGrowthUptoRow : OpenClaim := { program := "ytdafgpikgpobbaa", sum := "7b8fe98c106b62b7ce769c371002e7ac27c1266c540a0c7d8a026e6354204884", func := "loop.example/g01025/laws.FnGrowth", spec := "fnGrowth", apart := false, narrowed := true }
def FnGrowthUptoSaid : Prop := fnGrowthUptoRow.holds Try.pinned (OpenSpec.upto fnGrowthSpec)

/-- 'laws.FnLoans', WHERE WHAT IT READS IS OF BULK AT MOST 1048576: true; the input reads as it did. -/
def fnLoansUptoRow : OpenClaim := { program := "ytdafgpikgpobbaa", sum := "7b8fe98c106b62b7ce769c371002e7ac27c1266c540a0c7d8a026e6354204884", func := "loop.example/g01025/laws.FnLoans", spec := "fnLoans", apart := false, narrowed := true }
def FnLoansUptoSaid : Prop := fnLoansUptoRow.holds Try.pinned (OpenSpec.upto fnLoansSpec)

/-- 'laws.FnDiscounts', WHERE WHAT IT READS IS OF BULK AT MOST 1048576: true; the input reads as it did. -/
def fnDiscountsUptoRow : OpenClaim := { program := "ytdafgpikgpobbaa", sum := "7b8fe98c106b62b7ce769c371002e7ac27c1266c540a0c7d8a026e6354204884", func := "loop.example/g01025/laws.FnDiscounts", spec := "fnDiscounts", unfollowed := true, recurses := true, apart := false, narrowed := true }
def FnDiscountsUptoSaid : Prop := fnDiscountsUptoRow.holds Try.pinned (OpenSpec.upto fnDiscountsSpec)

/-- 'laws.FnExactMultiplyDivide', WHERE WHAT IT READS IS OF BULK AT MOST 1048576: true; the input reads as it did. -/
def fnExactMultiplyDivideUptoRow : OpenClaim := { program := "ytdafgpikgpobbaa", sum := "7b8fe98c106b62b7ce769c371002e7ac27c1266c540a0c7d8a026e6354204884", func := "loop.example/g01025/laws.FnExactMultiplyDivide", spec := "fnExactMultiplyDivide", named := ["math/bits.divideError", "math/bits.overflowError"], apart := false, narrowed := true }
def FnExactMultiplyDivideUptoSaid : Prop := fnExactMultiplyDivideUptoRow.holds Try.pinned (OpenSpec.upto fnExactMultiplyDivideSpec)

end Rows
end Go.Proofs.Ytdafgpikgpobbaa
