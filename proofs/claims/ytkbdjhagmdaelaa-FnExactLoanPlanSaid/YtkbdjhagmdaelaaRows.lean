/-
  No cell of these rows narrows 'for every input' (looked for: loops, veiled, ifaces, maps, wideKeys, modest, calm, conditions, laid).
  DERIVED. THE GIVEN ROWS OF THIS SEAT. 8 by the template 'for every input the law returns true; each argument reads behind the call as it read before'; 0 by the template 'total and deterministic' (their statements: YtkbdjhagmdaelaaTotals.lean).
  GIVEN WITH THE SEED: the statements are not yours to turn. If you find one false, say at which input.
  Laid BY PROGRAM, IN A SANDBOX (cutbox-rows.mjs): the forced cells as the released guide's own fill.sh prints them over the translation f162ef3c9bc0a7ed… (all of the seat's roots in one cut). By AI agents, Wed Nov 11 2026. No macro, syntax, notation, axiom, sorry.
-/
import Derived.Test.YtkbdjhagmdaelaaChecked
import GoSem.Claim
import GoSem.ClaimJoined
import GoSem.ClaimMapViews
import Derived.JoinedTies
import Derived.KernelRfl
namespace Go.Proofs.Ytkbdjhagmdaelaa
/- THE CELL 'sum', in the pinned program and in every row, IS THE sha256 OF THE DUMP (.gsa) THAT YtkbdjhagmdaelaaProg.lean LOADS. Nothing in Lean hashes anything: it is a label: what it is worth is what the hold of that sum in a sandbox is worth. -/
noncomputable def Try.pinned : Pinned := { name := "ytkbdjhagmdaelaa", sum := "f162ef3c9bc0a7ed270e5c424d80307cad59275db99db29be4125740dd9e5e3e", checked := Try.checked }
namespace Rows
def none {H : Type} : Left H := { results := [], args := [] }

/-- 'laws.FnExactDiscountOf': WHATEVER THE INPUT: true; the input reads as it did. -/
def fnExactDiscountOfSpec : ChangeSpec := { name := "fnExactDiscountOf", fn := fun _ => fun
  | [d1, d2] => { results := [.lit (.bool true)], args := [d1, d2] }
  | _ => none }
def fnExactDiscountOfRow : OpenClaim := { program := "ytkbdjhagmdaelaa", sum := "f162ef3c9bc0a7ed270e5c424d80307cad59275db99db29be4125740dd9e5e3e", func := "loop.example/g01025/laws.FnExactDiscountOf", spec := "fnExactDiscountOf", apart := false }
def FnExactDiscountOfSaid : Prop := fnExactDiscountOfRow.holds Try.pinned (OpenSpec.ofChange fnExactDiscountOfSpec)

/-- ITS FALSE NEIGHBOUR: 'it returns false'. Refute it at one input. -/
def fnExactDiscountOfWrong : ChangeSpec := { name := "fnExactDiscountOf", fn := fun _ => fun
  | [d1, d2] => { results := [.lit (.bool false)], args := [d1, d2] }
  | _ => none }
def FnExactDiscountOfWrongFalsely : Prop := fnExactDiscountOfRow.holds Try.pinned (OpenSpec.ofChange fnExactDiscountOfWrong)

/-- 'laws.FnExactDoublingYears': WHATEVER THE INPUT: true; the input reads as it did. -/
def fnExactDoublingYearsSpec : ChangeSpec := { name := "fnExactDoublingYears", fn := fun _ => fun
  | [d] => { results := [.lit (.bool true)], args := [d] }
  | _ => none }
def fnExactDoublingYearsRow : OpenClaim := { program := "ytkbdjhagmdaelaa", sum := "f162ef3c9bc0a7ed270e5c424d80307cad59275db99db29be4125740dd9e5e3e", func := "loop.example/g01025/laws.FnExactDoublingYears", spec := "fnExactDoublingYears", apart := false }
def FnExactDoublingYearsSaid : Prop := fnExactDoublingYearsRow.holds Try.pinned (OpenSpec.ofChange fnExactDoublingYearsSpec)

/-- ITS FALSE NEIGHBOUR: 'it returns false'. Refute it at one input. -/
def fnExactDoublingYearsWrong : ChangeSpec := { name := "fnExactDoublingYears", fn := fun _ => fun
  | [d] => { results := [.lit (.bool false)], args := [d] }
  | _ => none }
def FnExactDoublingYearsWrongFalsely : Prop := fnExactDoublingYearsRow.holds Try.pinned (OpenSpec.ofChange fnExactDoublingYearsWrong)

/-- 'laws.FnExactRateBetween': WHATEVER THE INPUT: true; the input reads as it did. -/
def fnExactRateBetweenSpec : ChangeSpec := { name := "fnExactRateBetween", fn := fun _ => fun
  | [d1, d2, d3] => { results := [.lit (.bool true)], args := [d1, d2, d3] }
  | _ => none }
def fnExactRateBetweenRow : OpenClaim := { program := "ytkbdjhagmdaelaa", sum := "f162ef3c9bc0a7ed270e5c424d80307cad59275db99db29be4125740dd9e5e3e", func := "loop.example/g01025/laws.FnExactRateBetween", spec := "fnExactRateBetween", apart := false }
def FnExactRateBetweenSaid : Prop := fnExactRateBetweenRow.holds Try.pinned (OpenSpec.ofChange fnExactRateBetweenSpec)

/-- ITS FALSE NEIGHBOUR: 'it returns false'. Refute it at one input. -/
def fnExactRateBetweenWrong : ChangeSpec := { name := "fnExactRateBetween", fn := fun _ => fun
  | [d1, d2, d3] => { results := [.lit (.bool false)], args := [d1, d2, d3] }
  | _ => none }
def FnExactRateBetweenWrongFalsely : Prop := fnExactRateBetweenRow.holds Try.pinned (OpenSpec.ofChange fnExactRateBetweenWrong)

/-- 'laws.FnExactGrowAmount': WHATEVER THE INPUT: true; the input reads as it did. -/
def fnExactGrowAmountSpec : ChangeSpec := { name := "fnExactGrowAmount", fn := fun _ => fun
  | [d1, d2, d3] => { results := [.lit (.bool true)], args := [d1, d2, d3] }
  | _ => none }
def fnExactGrowAmountRow : OpenClaim := { program := "ytkbdjhagmdaelaa", sum := "f162ef3c9bc0a7ed270e5c424d80307cad59275db99db29be4125740dd9e5e3e", func := "loop.example/g01025/laws.FnExactGrowAmount", spec := "fnExactGrowAmount", apart := false }
def FnExactGrowAmountSaid : Prop := fnExactGrowAmountRow.holds Try.pinned (OpenSpec.ofChange fnExactGrowAmountSpec)

/-- ITS FALSE NEIGHBOUR: 'it returns false'. Refute it at one input. -/
def fnExactGrowAmountWrong : ChangeSpec := { name := "fnExactGrowAmount", fn := fun _ => fun
  | [d1, d2, d3] => { results := [.lit (.bool false)], args := [d1, d2, d3] }
  | _ => none }
def FnExactGrowAmountWrongFalsely : Prop := fnExactGrowAmountRow.holds Try.pinned (OpenSpec.ofChange fnExactGrowAmountWrong)

/-- 'laws.FnExactCertainAnnuity': WHATEVER THE INPUT: true; the input reads as it did. -/
def fnExactCertainAnnuitySpec : ChangeSpec := { name := "fnExactCertainAnnuity", fn := fun _ => fun
  | [d1, d2] => { results := [.lit (.bool true)], args := [d1, d2] }
  | _ => none }
def fnExactCertainAnnuityRow : OpenClaim := { program := "ytkbdjhagmdaelaa", sum := "f162ef3c9bc0a7ed270e5c424d80307cad59275db99db29be4125740dd9e5e3e", func := "loop.example/g01025/laws.FnExactCertainAnnuity", spec := "fnExactCertainAnnuity", apart := false }
def FnExactCertainAnnuitySaid : Prop := fnExactCertainAnnuityRow.holds Try.pinned (OpenSpec.ofChange fnExactCertainAnnuitySpec)

/-- ITS FALSE NEIGHBOUR: 'it returns false'. Refute it at one input. -/
def fnExactCertainAnnuityWrong : ChangeSpec := { name := "fnExactCertainAnnuity", fn := fun _ => fun
  | [d1, d2] => { results := [.lit (.bool false)], args := [d1, d2] }
  | _ => none }
def FnExactCertainAnnuityWrongFalsely : Prop := fnExactCertainAnnuityRow.holds Try.pinned (OpenSpec.ofChange fnExactCertainAnnuityWrong)

/-- 'laws.FnExactLoanPayment': WHATEVER THE INPUT: true; the input reads as it did. -/
def fnExactLoanPaymentSpec : ChangeSpec := { name := "fnExactLoanPayment", fn := fun _ => fun
  | [d1, d2, d3] => { results := [.lit (.bool true)], args := [d1, d2, d3] }
  | _ => none }
def fnExactLoanPaymentRow : OpenClaim := { program := "ytkbdjhagmdaelaa", sum := "f162ef3c9bc0a7ed270e5c424d80307cad59275db99db29be4125740dd9e5e3e", func := "loop.example/g01025/laws.FnExactLoanPayment", spec := "fnExactLoanPayment", apart := false }
def FnExactLoanPaymentSaid : Prop := fnExactLoanPaymentRow.holds Try.pinned (OpenSpec.ofChange fnExactLoanPaymentSpec)

/-- ITS FALSE NEIGHBOUR: 'it returns false'. Refute it at one input. -/
def fnExactLoanPaymentWrong : ChangeSpec := { name := "fnExactLoanPayment", fn := fun _ => fun
  | [d1, d2, d3] => { results := [.lit (.bool false)], args := [d1, d2, d3] }
  | _ => none }
def FnExactLoanPaymentWrongFalsely : Prop := fnExactLoanPaymentRow.holds Try.pinned (OpenSpec.ofChange fnExactLoanPaymentWrong)

/-- 'laws.FnExactPresentValue': WHATEVER THE INPUT: true; the input reads as it did. -/
def fnExactPresentValueSpec : ChangeSpec := { name := "fnExactPresentValue", fn := fun _ => fun
  | [d1, d2] => { results := [.lit (.bool true)], args := [d1, d2] }
  | _ => none }
def fnExactPresentValueRow : OpenClaim := { program := "ytkbdjhagmdaelaa", sum := "f162ef3c9bc0a7ed270e5c424d80307cad59275db99db29be4125740dd9e5e3e", func := "loop.example/g01025/laws.FnExactPresentValue", spec := "fnExactPresentValue", unfollowed := true, recurses := true, apart := false }
def FnExactPresentValueSaid : Prop := fnExactPresentValueRow.holds Try.pinned (OpenSpec.ofChange fnExactPresentValueSpec)

/-- ITS FALSE NEIGHBOUR: 'it returns false'. Refute it at one input. -/
def fnExactPresentValueWrong : ChangeSpec := { name := "fnExactPresentValue", fn := fun _ => fun
  | [d1, d2] => { results := [.lit (.bool false)], args := [d1, d2] }
  | _ => none }
def FnExactPresentValueWrongFalsely : Prop := fnExactPresentValueRow.holds Try.pinned (OpenSpec.ofChange fnExactPresentValueWrong)

/-- 'laws.FnExactLoanPlan': WHATEVER THE INPUT: true; the input reads as it did. -/
def fnExactLoanPlanSpec : ChangeSpec := { name := "fnExactLoanPlan", fn := fun _ => fun
  | [d1, d2, d3] => { results := [.lit (.bool true)], args := [d1, d2, d3] }
  | _ => none }
def fnExactLoanPlanRow : OpenClaim := { program := "ytkbdjhagmdaelaa", sum := "f162ef3c9bc0a7ed270e5c424d80307cad59275db99db29be4125740dd9e5e3e", func := "loop.example/g01025/laws.FnExactLoanPlan", spec := "fnExactLoanPlan", apart := false }
def FnExactLoanPlanSaid : Prop := fnExactLoanPlanRow.holds Try.pinned (OpenSpec.ofChange fnExactLoanPlanSpec)

/-- ITS FALSE NEIGHBOUR: 'it returns false'. Refute it at one input. -/
def fnExactLoanPlanWrong : ChangeSpec := { name := "fnExactLoanPlan", fn := fun _ => fun
  | [d1, d2, d3] => { results := [.lit (.bool false)], args := [d1, d2, d3] }
  | _ => none }
def FnExactLoanPlanWrongFalsely : Prop := fnExactLoanPlanRow.holds Try.pinned (OpenSpec.ofChange fnExactLoanPlanWrong)

/- THE SECOND FORM. 'bulk': how many values and letters a reading holds, each counted each time it is reached (what is shared counts as often as it is met; a slice's spare places count too). A statement '..UptoSaid' is the law's where the arguments, and the package variables that the reading takes, are together of bulk at most 1048576: NARROWER than '..Said'. Prove '..Said' where nothing that the law and all that it calls make is longer than what came in: it says more and counts as full. Else prove '..UptoSaid'. A law counts once. -/
mutual
def uptoBulk {H : Type} : DataW H → Nat
  | .lit (.string bytes) => bytes.length + 1
  | .lit _ => 1
  | .nil => 1
  | .ptr d => uptoBulk d + 1
  | .slice elems spare => uptoBulkAll elems + uptoBulkAll spare + 1
  | .agg parts => uptoBulkAll parts + 1
  | .iface _ d => uptoBulk d + 1
  | .map entries => uptoBulkEntries entries + 1
  | .held _ => 1
def uptoBulkAll {H : Type} : List (DataW H) → Nat
  | [] => 0
  | d :: r => uptoBulk d + uptoBulkAll r
def uptoBulkEntries {H : Type} : List (Lit × DataW H) → Nat
  | [] => 0
  | x :: r => uptoBulkEntry x + uptoBulkEntries r
def uptoBulkEntry {H : Type} : Lit × DataW H → Nat
  | (.string bytes, d) => bytes.length + uptoBulk d + 1
  | (_, d) => uptoBulk d + 1
 end
def uptoSmall : (H : Type) → List (DataW H) → Bool := fun _ ds => decide (uptoBulkAll ds ≤ 1048576)
def OpenSpec.upto (s : _root_.Go.ChangeSpec) : _root_.Go.OpenSpec := { _root_.Go.OpenSpec.ofChange s with cond := some uptoSmall }

/-- 'laws.FnExactDiscountOf', WHERE WHAT IT READS IS OF BULK AT MOST 1048576: true; the input reads as it did. -/
def fnExactDiscountOfUptoRow : OpenClaim := { program := "ytkbdjhagmdaelaa", sum := "f162ef3c9bc0a7ed270e5c424d80307cad59275db99db29be4125740dd9e5e3e", func := "loop.example/g01025/laws.FnExactDiscountOf", spec := "fnExactDiscountOf", apart := false, narrowed := true }
def FnExactDiscountOfUptoSaid : Prop := fnExactDiscountOfUptoRow.holds Try.pinned (OpenSpec.upto fnExactDiscountOfSpec)

/-- 'laws.FnExactDoublingYears', WHERE WHAT IT READS IS OF BULK AT MOST 1048576: true; the input reads as it did. -/
def fnExactDoublingYearsUptoRow : OpenClaim := { program := "ytkbdjhagmdaelaa", sum := "f162ef3c9bc0a7ed270e5c424d80307cad59275db99db29be4125740dd9e5e3e", func := "loop.example/g01025/laws.FnExactDoublingYears", spec := "fnExactDoublingYears", apart := false, narrowed := true }
def FnExactDoublingYearsUptoSaid : Prop := fnExactDoublingYearsUptoRow.holds Try.pinned (OpenSpec.upto fnExactDoublingYearsSpec)

/-- 'laws.FnExactRateBetween', WHERE WHAT IT READS IS OF BULK AT MOST 1048576: true; the input reads as it did. -/
def fnExactRateBetweenUptoRow : OpenClaim := { program := "ytkbdjhagmdaelaa", sum := "f162ef3c9bc0a7ed270e5c424d80307cad59275db99db29be4125740dd9e5e3e", func := "loop.example/g01025/laws.FnExactRateBetween", spec := "fnExactRateBetween", apart := false, narrowed := true }
def FnExactRateBetweenUptoSaid : Prop := fnExactRateBetweenUptoRow.holds Try.pinned (OpenSpec.upto fnExactRateBetweenSpec)

/-- 'laws.FnExactGrowAmount', WHERE WHAT IT READS IS OF BULK AT MOST 1048576: true; the input reads as it did. -/
def fnExactGrowAmountUptoRow : OpenClaim := { program := "ytkbdjhagmdaelaa", sum := "f162ef3c9bc0a7ed270e5c424d80307cad59275db99db29be4125740dd9e5e3e", func := "loop.example/g01025/laws.FnExactGrowAmount", spec := "fnExactGrowAmount", apart := false, narrowed := true }
def FnExactGrowAmountUptoSaid : Prop := fnExactGrowAmountUptoRow.holds Try.pinned (OpenSpec.upto fnExactGrowAmountSpec)

/-- 'laws.FnExactCertainAnnuity', WHERE WHAT IT READS IS OF BULK AT MOST 1048576: true; the input reads as it did. -/
def fnExactCertainAnnuityUptoRow : OpenClaim := { program := "ytkbdjhagmdaelaa", sum := "f162ef3c9bc0a7ed270e5c424d80307cad59275db99db29be4125740dd9e5e3e", func := "loop.example/g01025/laws.FnExactCertainAnnuity", spec := "fnExactCertainAnnuity", apart := false, narrowed := true }
def FnExactCertainAnnuityUptoSaid : Prop := fnExactCertainAnnuityUptoRow.holds Try.pinned (OpenSpec.upto fnExactCertainAnnuitySpec)

/-- 'laws.FnExactLoanPayment', WHERE WHAT IT READS IS OF BULK AT MOST 1048576: true; the input reads as it did. -/
def fnExactLoanPaymentUptoRow : OpenClaim := { program := "ytkbdjhagmdaelaa", sum := "f162ef3c9bc0a7ed270e5c424d80307cad59275db99db29be4125740dd9e5e3e", func := "loop.example/g01025/laws.FnExactLoanPayment", spec := "fnExactLoanPayment", apart := false, narrowed := true }
def FnExactLoanPaymentUptoSaid : Prop := fnExactLoanPaymentUptoRow.holds Try.pinned (OpenSpec.upto fnExactLoanPaymentSpec)

/-- 'laws.FnExactPresentValue', WHERE WHAT IT READS IS OF BULK AT MOST 1048576: true; the input reads as it did. -/
def fnExactPresentValueUptoRow : OpenClaim := { program := "ytkbdjhagmdaelaa", sum := "f162ef3c9bc0a7ed270e5c424d80307cad59275db99db29be4125740dd9e5e3e", func := "loop.example/g01025/laws.FnExactPresentValue", spec := "fnExactPresentValue", unfollowed := true, recurses := true, apart := false, narrowed := true }
def FnExactPresentValueUptoSaid : Prop := fnExactPresentValueUptoRow.holds Try.pinned (OpenSpec.upto fnExactPresentValueSpec)

/-- 'laws.FnExactLoanPlan', WHERE WHAT IT READS IS OF BULK AT MOST 1048576: true; the input reads as it did. -/
def fnExactLoanPlanUptoRow : OpenClaim := { program := "ytkbdjhagmdaelaa", sum := "f162ef3c9bc0a7ed270e5c424d80307cad59275db99db29be4125740dd9e5e3e", func := "loop.example/g01025/laws.FnExactLoanPlan", spec := "fnExactLoanPlan", apart := false, narrowed := true }
def FnExactLoanPlanUptoSaid : Prop := fnExactLoanPlanUptoRow.holds Try.pinned (OpenSpec.upto fnExactLoanPlanSpec)

end Rows
end Go.Proofs.Ytkbdjhagmdaelaa
