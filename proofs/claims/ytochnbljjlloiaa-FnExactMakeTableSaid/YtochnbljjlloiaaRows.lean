/-
  No cell of these rows narrows 'for every input' (looked for: loops, veiled, ifaces, maps, wideKeys, modest, calm, conditions, laid).
  DERIVED. THE GIVEN ROWS OF THIS SEAT. 12 by the template 'for every input the law returns true; each argument reads behind the call as it read before'; 0 by the template 'total and deterministic' (their statements: YtochnbljjlloiaaTotals.lean).
  GIVEN WITH THE SEED: the statements are not yours to turn. If you find one false, say at which input.
  Laid BY PROGRAM, IN A SANDBOX (cutbox-rows.mjs): the forced cells as the released guide's own fill.sh prints them over the translation 3aac1e061444e0af… (all of the seat's roots in one cut). By AI agents, Wed Nov 11 2026. No macro, syntax, notation, axiom, sorry.
-/
import Derived.Test.YtochnbljjlloiaaChecked
import GoSem.Claim
import GoSem.ClaimJoined
import GoSem.ClaimMapViews
import Derived.JoinedTies
import Derived.KernelRfl
namespace Go.Proofs.Ytochnbljjlloiaa
/- THE CELL 'sum', in the pinned program and in every row, IS THE sha256 OF THE DUMP (.gsa) THAT YtochnbljjlloiaaProg.lean LOADS. Nothing in Lean hashes anything: it is a label: what it is worth is what the hold of that sum in a sandbox is worth. -/
noncomputable def Try.pinned : Pinned := { name := "ytochnbljjlloiaa", sum := "3aac1e061444e0afff73ec159ed512095030e4779e7706f1deb2143157045714", checked := Try.checked }
namespace Rows
def none {H : Type} : Left H := { results := [], args := [] }

/-- 'laws.FnExactIsLifeTable': WHATEVER THE INPUT: true; the input reads as it did. -/
def fnExactIsLifeTableSpec : ChangeSpec := { name := "fnExactIsLifeTable", fn := fun _ => fun
  | [d] => { results := [.lit (.bool true)], args := [d] }
  | _ => none }
def fnExactIsLifeTableRow : OpenClaim := { program := "ytochnbljjlloiaa", sum := "3aac1e061444e0afff73ec159ed512095030e4779e7706f1deb2143157045714", func := "loop.example/g01025/laws.FnExactIsLifeTable", spec := "fnExactIsLifeTable", apart := false }
def FnExactIsLifeTableSaid : Prop := fnExactIsLifeTableRow.holds Try.pinned (OpenSpec.ofChange fnExactIsLifeTableSpec)

/-- ITS FALSE NEIGHBOUR: 'it returns false'. Refute it at one input. -/
def fnExactIsLifeTableWrong : ChangeSpec := { name := "fnExactIsLifeTable", fn := fun _ => fun
  | [d] => { results := [.lit (.bool false)], args := [d] }
  | _ => none }
def FnExactIsLifeTableWrongFalsely : Prop := fnExactIsLifeTableRow.holds Try.pinned (OpenSpec.ofChange fnExactIsLifeTableWrong)

/-- 'laws.FnExactSumOf': WHATEVER THE INPUT: true; the input reads as it did. -/
def fnExactSumOfSpec : ChangeSpec := { name := "fnExactSumOf", fn := fun _ => fun
  | [d] => { results := [.lit (.bool true)], args := [d] }
  | _ => none }
def fnExactSumOfRow : OpenClaim := { program := "ytochnbljjlloiaa", sum := "3aac1e061444e0afff73ec159ed512095030e4779e7706f1deb2143157045714", func := "loop.example/g01025/laws.FnExactSumOf", spec := "fnExactSumOf", unfollowed := true, recurses := true, apart := false }
def FnExactSumOfSaid : Prop := fnExactSumOfRow.holds Try.pinned (OpenSpec.ofChange fnExactSumOfSpec)

/-- ITS FALSE NEIGHBOUR: 'it returns false'. Refute it at one input. -/
def fnExactSumOfWrong : ChangeSpec := { name := "fnExactSumOf", fn := fun _ => fun
  | [d] => { results := [.lit (.bool false)], args := [d] }
  | _ => none }
def FnExactSumOfWrongFalsely : Prop := fnExactSumOfRow.holds Try.pinned (OpenSpec.ofChange fnExactSumOfWrong)

/-- 'laws.FnExactIsSickTable': WHATEVER THE INPUT: true; the input reads as it did. -/
def fnExactIsSickTableSpec : ChangeSpec := { name := "fnExactIsSickTable", fn := fun _ => fun
  | [d] => { results := [.lit (.bool true)], args := [d] }
  | _ => none }
def fnExactIsSickTableRow : OpenClaim := { program := "ytochnbljjlloiaa", sum := "3aac1e061444e0afff73ec159ed512095030e4779e7706f1deb2143157045714", func := "loop.example/g01025/laws.FnExactIsSickTable", spec := "fnExactIsSickTable", unfollowed := true, recurses := true, apart := false }
def FnExactIsSickTableSaid : Prop := fnExactIsSickTableRow.holds Try.pinned (OpenSpec.ofChange fnExactIsSickTableSpec)

/-- ITS FALSE NEIGHBOUR: 'it returns false'. Refute it at one input. -/
def fnExactIsSickTableWrong : ChangeSpec := { name := "fnExactIsSickTable", fn := fun _ => fun
  | [d] => { results := [.lit (.bool false)], args := [d] }
  | _ => none }
def FnExactIsSickTableWrongFalsely : Prop := fnExactIsSickTableRow.holds Try.pinned (OpenSpec.ofChange fnExactIsSickTableWrong)

/-- 'laws.FnExactIsBasis': WHATEVER THE INPUT: true; the input reads as it did. -/
def fnExactIsBasisSpec : ChangeSpec := { name := "fnExactIsBasis", fn := fun _ => fun
  | [d] => { results := [.lit (.bool true)], args := [d] }
  | _ => none }
def fnExactIsBasisRow : OpenClaim := { program := "ytochnbljjlloiaa", sum := "3aac1e061444e0afff73ec159ed512095030e4779e7706f1deb2143157045714", func := "loop.example/g01025/laws.FnExactIsBasis", spec := "fnExactIsBasis", apart := false }
def FnExactIsBasisSaid : Prop := fnExactIsBasisRow.holds Try.pinned (OpenSpec.ofChange fnExactIsBasisSpec)

/-- ITS FALSE NEIGHBOUR: 'it returns false'. Refute it at one input. -/
def fnExactIsBasisWrong : ChangeSpec := { name := "fnExactIsBasis", fn := fun _ => fun
  | [d] => { results := [.lit (.bool false)], args := [d] }
  | _ => none }
def FnExactIsBasisWrongFalsely : Prop := fnExactIsBasisRow.holds Try.pinned (OpenSpec.ofChange fnExactIsBasisWrong)

/-- 'laws.FnExactIsClass': WHATEVER THE INPUT: true; the input reads as it did. -/
def fnExactIsClassSpec : ChangeSpec := { name := "fnExactIsClass", fn := fun _ => fun
  | [d] => { results := [.lit (.bool true)], args := [d] }
  | _ => none }
def fnExactIsClassRow : OpenClaim := { program := "ytochnbljjlloiaa", sum := "3aac1e061444e0afff73ec159ed512095030e4779e7706f1deb2143157045714", func := "loop.example/g01025/laws.FnExactIsClass", spec := "fnExactIsClass", unfollowed := true, recurses := true, apart := false }
def FnExactIsClassSaid : Prop := fnExactIsClassRow.holds Try.pinned (OpenSpec.ofChange fnExactIsClassSpec)

/-- ITS FALSE NEIGHBOUR: 'it returns false'. Refute it at one input. -/
def fnExactIsClassWrong : ChangeSpec := { name := "fnExactIsClass", fn := fun _ => fun
  | [d] => { results := [.lit (.bool false)], args := [d] }
  | _ => none }
def FnExactIsClassWrongFalsely : Prop := fnExactIsClassRow.holds Try.pinned (OpenSpec.ofChange fnExactIsClassWrong)

/-- 'laws.FnExactWeeksAt': WHATEVER THE INPUT: true; the input reads as it did. -/
def fnExactWeeksAtSpec : ChangeSpec := { name := "fnExactWeeksAt", fn := fun _ => fun
  | [d1, d2] => { results := [.lit (.bool true)], args := [d1, d2] }
  | _ => none }
def fnExactWeeksAtRow : OpenClaim := { program := "ytochnbljjlloiaa", sum := "3aac1e061444e0afff73ec159ed512095030e4779e7706f1deb2143157045714", func := "loop.example/g01025/laws.FnExactWeeksAt", spec := "fnExactWeeksAt", unfollowed := true, recurses := true, apart := false }
def FnExactWeeksAtSaid : Prop := fnExactWeeksAtRow.holds Try.pinned (OpenSpec.ofChange fnExactWeeksAtSpec)

/-- ITS FALSE NEIGHBOUR: 'it returns false'. Refute it at one input. -/
def fnExactWeeksAtWrong : ChangeSpec := { name := "fnExactWeeksAt", fn := fun _ => fun
  | [d1, d2] => { results := [.lit (.bool false)], args := [d1, d2] }
  | _ => none }
def FnExactWeeksAtWrongFalsely : Prop := fnExactWeeksAtRow.holds Try.pinned (OpenSpec.ofChange fnExactWeeksAtWrong)

/-- 'laws.FnExactWorstAge': WHATEVER THE INPUT: true; the input reads as it did. -/
def fnExactWorstAgeSpec : ChangeSpec := { name := "fnExactWorstAge", fn := fun _ => fun
  | [d] => { results := [.lit (.bool true)], args := [d] }
  | _ => none }
def fnExactWorstAgeRow : OpenClaim := { program := "ytochnbljjlloiaa", sum := "3aac1e061444e0afff73ec159ed512095030e4779e7706f1deb2143157045714", func := "loop.example/g01025/laws.FnExactWorstAge", spec := "fnExactWorstAge", unfollowed := true, recurses := true, apart := false }
def FnExactWorstAgeSaid : Prop := fnExactWorstAgeRow.holds Try.pinned (OpenSpec.ofChange fnExactWorstAgeSpec)

/-- ITS FALSE NEIGHBOUR: 'it returns false'. Refute it at one input. -/
def fnExactWorstAgeWrong : ChangeSpec := { name := "fnExactWorstAge", fn := fun _ => fun
  | [d] => { results := [.lit (.bool false)], args := [d] }
  | _ => none }
def FnExactWorstAgeWrongFalsely : Prop := fnExactWorstAgeRow.holds Try.pinned (OpenSpec.ofChange fnExactWorstAgeWrong)

/-- 'laws.FnExactMakeTable': WHATEVER THE INPUT: true; the input reads as it did. -/
def fnExactMakeTableSpec : ChangeSpec := { name := "fnExactMakeTable", fn := fun _ => fun
  | [d1, d2, d3] => { results := [.lit (.bool true)], args := [d1, d2, d3] }
  | _ => none }
def fnExactMakeTableRow : OpenClaim := { program := "ytochnbljjlloiaa", sum := "3aac1e061444e0afff73ec159ed512095030e4779e7706f1deb2143157045714", func := "loop.example/g01025/laws.FnExactMakeTable", spec := "fnExactMakeTable", unfollowed := true, recurses := true, apart := false }
def FnExactMakeTableSaid : Prop := fnExactMakeTableRow.holds Try.pinned (OpenSpec.ofChange fnExactMakeTableSpec)

/-- ITS FALSE NEIGHBOUR: 'it returns false'. Refute it at one input. -/
def fnExactMakeTableWrong : ChangeSpec := { name := "fnExactMakeTable", fn := fun _ => fun
  | [d1, d2, d3] => { results := [.lit (.bool false)], args := [d1, d2, d3] }
  | _ => none }
def FnExactMakeTableWrongFalsely : Prop := fnExactMakeTableRow.holds Try.pinned (OpenSpec.ofChange fnExactMakeTableWrong)

/-- 'laws.FnExactSickWeeks': WHATEVER THE INPUT: true; the input reads as it did. -/
def fnExactSickWeeksSpec : ChangeSpec := { name := "fnExactSickWeeks", fn := fun _ => fun
  | [d1, d2] => { results := [.lit (.bool true)], args := [d1, d2] }
  | _ => none }
def fnExactSickWeeksRow : OpenClaim := { program := "ytochnbljjlloiaa", sum := "3aac1e061444e0afff73ec159ed512095030e4779e7706f1deb2143157045714", func := "loop.example/g01025/laws.FnExactSickWeeks", spec := "fnExactSickWeeks", unfollowed := true, recurses := true, apart := false }
def FnExactSickWeeksSaid : Prop := fnExactSickWeeksRow.holds Try.pinned (OpenSpec.ofChange fnExactSickWeeksSpec)

/-- ITS FALSE NEIGHBOUR: 'it returns false'. Refute it at one input. -/
def fnExactSickWeeksWrong : ChangeSpec := { name := "fnExactSickWeeks", fn := fun _ => fun
  | [d1, d2] => { results := [.lit (.bool false)], args := [d1, d2] }
  | _ => none }
def FnExactSickWeeksWrongFalsely : Prop := fnExactSickWeeksRow.holds Try.pinned (OpenSpec.ofChange fnExactSickWeeksWrong)

/-- 'laws.FnExactLastMember': WHATEVER THE INPUT: true; the input reads as it did. -/
def fnExactLastMemberSpec : ChangeSpec := { name := "fnExactLastMember", fn := fun _ => fun
  | [d] => { results := [.lit (.bool true)], args := [d] }
  | _ => none }
def fnExactLastMemberRow : OpenClaim := { program := "ytochnbljjlloiaa", sum := "3aac1e061444e0afff73ec159ed512095030e4779e7706f1deb2143157045714", func := "loop.example/g01025/laws.FnExactLastMember", spec := "fnExactLastMember", unfollowed := true, recurses := true, apart := false }
def FnExactLastMemberSaid : Prop := fnExactLastMemberRow.holds Try.pinned (OpenSpec.ofChange fnExactLastMemberSpec)

/-- ITS FALSE NEIGHBOUR: 'it returns false'. Refute it at one input. -/
def fnExactLastMemberWrong : ChangeSpec := { name := "fnExactLastMember", fn := fun _ => fun
  | [d] => { results := [.lit (.bool false)], args := [d] }
  | _ => none }
def FnExactLastMemberWrongFalsely : Prop := fnExactLastMemberRow.holds Try.pinned (OpenSpec.ofChange fnExactLastMemberWrong)

/-- 'laws.FnExactLivingShares': WHATEVER THE INPUT: true; the input reads as it did. -/
def fnExactLivingSharesSpec : ChangeSpec := { name := "fnExactLivingShares", fn := fun _ => fun
  | [d] => { results := [.lit (.bool true)], args := [d] }
  | _ => none }
def fnExactLivingSharesRow : OpenClaim := { program := "ytochnbljjlloiaa", sum := "3aac1e061444e0afff73ec159ed512095030e4779e7706f1deb2143157045714", func := "loop.example/g01025/laws.FnExactLivingShares", spec := "fnExactLivingShares", unfollowed := true, recurses := true, apart := false }
def FnExactLivingSharesSaid : Prop := fnExactLivingSharesRow.holds Try.pinned (OpenSpec.ofChange fnExactLivingSharesSpec)

/-- ITS FALSE NEIGHBOUR: 'it returns false'. Refute it at one input. -/
def fnExactLivingSharesWrong : ChangeSpec := { name := "fnExactLivingShares", fn := fun _ => fun
  | [d] => { results := [.lit (.bool false)], args := [d] }
  | _ => none }
def FnExactLivingSharesWrongFalsely : Prop := fnExactLivingSharesRow.holds Try.pinned (OpenSpec.ofChange fnExactLivingSharesWrong)

/-- 'laws.FnSickWeeks': WHATEVER THE INPUT: true; the input reads as it did. -/
def fnSickWeeksSpec : ChangeSpec := { name := "fnSickWeeks", fn := fun _ => fun
  | [d] => { results := [.lit (.bool true)], args := [d] }
  | _ => none }
def fnSickWeeksRow : OpenClaim := { program := "ytochnbljjlloiaa", sum := "3aac1e061444e0afff73ec159ed512095030e4779e7706f1deb2143157045714", func := "loop.example/g01025/laws.FnSickWeeks", spec := "fnSickWeeks", unfollowed := true, recurses := true, apart := false }
def FnSickWeeksSaid : Prop := fnSickWeeksRow.holds Try.pinned (OpenSpec.ofChange fnSickWeeksSpec)

/-- ITS FALSE NEIGHBOUR: 'it returns false'. Refute it at one input. -/
def fnSickWeeksWrong : ChangeSpec := { name := "fnSickWeeks", fn := fun _ => fun
  | [d] => { results := [.lit (.bool false)], args := [d] }
  | _ => none }
def FnSickWeeksWrongFalsely : Prop := fnSickWeeksRow.holds Try.pinned (OpenSpec.ofChange fnSickWeeksWrong)

/- THE SECOND FORM. 'bulk': how many values and letters a reading holds, each counted each time it is reached (what is shared counts as often as it is met; a slice's spare places count too). A statement '..UptoSaid' is the law's where the arguments, and the package variables that the reading takes, are together of bulk at most 1048576: NARROWER than '..Said'. Prove '..Said' where nothing that the law and all that it calls make is longer than what came in: it says more and counts as full. Else prove '..UptoSaid'. A law counts once. -/
mutual
def uptoBulk {H : Type} : DataW H → Nat
  | .lit (.string bytes) => bytes.length + 1
  | .lit _ => 1
  | .nil => 1
  | .ptr d => uptoBulk d + 1
  | .slice elems spare => uptoBulkAll elems + uptoBulkAll spare + 1
  | .agg parts => uptoBulkAll parts + 1
  | .iface _ d => uptoBulk d + 1
  | .map entries => uptoBulkEntries entries + 1
  | .held _ => 1
def uptoBulkAll {H : Type} : List (DataW H) → Nat
  | [] => 0
  | d :: r => uptoBulk d + uptoBulkAll r
def uptoBulkEntries {H : Type} : List (Lit × DataW H) → Nat
  | [] => 0
  | x :: r => uptoBulkEntry x + uptoBulkEntries r
def uptoBulkEntry {H : Type} : Lit × DataW H → Nat
  | (.string bytes, d) => bytes.length + uptoBulk d + 1
  | (_, d) => uptoBulk d + 1
 end
def uptoSmall : (H : Type) → List (DataW H) → Bool := fun _ ds => decide (uptoBulkAll ds ≤ 1048576)
def OpenSpec.upto (s : _root_.Go.ChangeSpec) : _root_.Go.OpenSpec := { _root_.Go.OpenSpec.ofChange s with cond := some uptoSmall }

/-- 'laws.FnExactIsLifeTable', WHERE WHAT IT READS IS OF BULK AT MOST 1048576: true; the input reads as it did. -/
def fnExactIsLifeTableUptoRow : OpenClaim := { program := "ytochnbljjlloiaa", sum := "3aac1e061444e0afff73ec159ed512095030e4779e7706f1deb2143157045714", func := "loop.example/g01025/laws.FnExactIsLifeTable", spec := "fnExactIsLifeTable", apart := false, narrowed := true }
def FnExactIsLifeTableUptoSaid : Prop := fnExactIsLifeTableUptoRow.holds Try.pinned (OpenSpec.upto fnExactIsLifeTableSpec)

/-- 'laws.FnExactSumOf', WHERE WHAT IT READS IS OF BULK AT MOST 1048576: true; the input reads as it did. -/
def fnExactSumOfUptoRow : OpenClaim := { program := "ytochnbljjlloiaa", sum := "3aac1e061444e0afff73ec159ed512095030e4779e7706f1deb2143157045714", func := "loop.example/g01025/laws.FnExactSumOf", spec := "fnExactSumOf", unfollowed := true, recurses := true, apart := false, narrowed := true }
def FnExactSumOfUptoSaid : Prop := fnExactSumOfUptoRow.holds Try.pinned (OpenSpec.upto fnExactSumOfSpec)

/-- 'laws.FnExactIsSickTable', WHERE WHAT IT READS IS OF BULK AT MOST 1048576: true; the input reads as it did. -/
def fnExactIsSickTableUptoRow : OpenClaim := { program := "ytochnbljjlloiaa", sum := "3aac1e061444e0afff73ec159ed512095030e4779e7706f1deb2143157045714", func := "loop.example/g01025/laws.FnExactIsSickTable", spec := "fnExactIsSickTable", unfollowed := true, recurses := true, apart := false, narrowed := true }
def FnExactIsSickTableUptoSaid : Prop := fnExactIsSickTableUptoRow.holds Try.pinned (OpenSpec.upto fnExactIsSickTableSpec)

/-- 'laws.FnExactIsBasis', WHERE WHAT IT READS IS OF BULK AT MOST 1048576: true; the input reads as it did. -/
def fnExactIsBasisUptoRow : OpenClaim := { program := "ytochnbljjlloiaa", sum := "3aac1e061444e0afff73ec159ed512095030e4779e7706f1deb2143157045714", func := "loop.example/g01025/laws.FnExactIsBasis", spec := "fnExactIsBasis", apart := false, narrowed := true }
def FnExactIsBasisUptoSaid : Prop := fnExactIsBasisUptoRow.holds Try.pinned (OpenSpec.upto fnExactIsBasisSpec)

/-- 'laws.FnExactIsClass', WHERE WHAT IT READS IS OF BULK AT MOST 1048576: true; the input reads as it did. -/
def fnExactIsClassUptoRow : OpenClaim := { program := "ytochnbljjlloiaa", sum := "3aac1e061444e0afff73ec159ed512095030e4779e7706f1deb2143157045714", func := "loop.example/g01025/laws.FnExactIsClass", spec := "fnExactIsClass", unfollowed := true, recurses := true, apart := false, narrowed := true }
def FnExactIsClassUptoSaid : Prop := fnExactIsClassUptoRow.holds Try.pinned (OpenSpec.upto fnExactIsClassSpec)

/-- 'laws.FnExactWeeksAt', WHERE WHAT IT READS IS OF BULK AT MOST 1048576: true; the input reads as it did. -/
def fnExactWeeksAtUptoRow : OpenClaim := { program := "ytochnbljjlloiaa", sum := "3aac1e061444e0afff73ec159ed512095030e4779e7706f1deb2143157045714", func := "loop.example/g01025/laws.FnExactWeeksAt", spec := "fnExactWeeksAt", unfollowed := true, recurses := true, apart := false, narrowed := true }
def FnExactWeeksAtUptoSaid : Prop := fnExactWeeksAtUptoRow.holds Try.pinned (OpenSpec.upto fnExactWeeksAtSpec)

/-- 'laws.FnExactWorstAge', WHERE WHAT IT READS IS OF BULK AT MOST 1048576: true; the input reads as it did. -/
def fnExactWorstAgeUptoRow : OpenClaim := { program := "ytochnbljjlloiaa", sum := "3aac1e061444e0afff73ec159ed512095030e4779e7706f1deb2143157045714", func := "loop.example/g01025/laws.FnExactWorstAge", spec := "fnExactWorstAge", unfollowed := true, recurses := true, apart := false, narrowed := true }
def FnExactWorstAgeUptoSaid : Prop := fnExactWorstAgeUptoRow.holds Try.pinned (OpenSpec.upto fnExactWorstAgeSpec)

/-- 'laws.FnExactMakeTable', WHERE WHAT IT READS IS OF BULK AT MOST 1048576: true; the input reads as it did. -/
def fnExactMakeTableUptoRow : OpenClaim := { program := "ytochnbljjlloiaa", sum := "3aac1e061444e0afff73ec159ed512095030e4779e7706f1deb2143157045714", func := "loop.example/g01025/laws.FnExactMakeTable", spec := "fnExactMakeTable", unfollowed := true, recurses := true, apart := false, narrowed := true }
def FnExactMakeTableUptoSaid : Prop := fnExactMakeTableUptoRow.holds Try.pinned (OpenSpec.upto fnExactMakeTableSpec)

/-- 'laws.FnExactSickWeeks', WHERE WHAT IT READS IS OF BULK AT MOST 1048576: true; the input reads as it did. -/
def fnExactSickWeeksUptoRow : OpenClaim := { program := "ytochnbljjlloiaa", sum := "3aac1e061444e0afff73ec159ed512095030e4779e7706f1deb2143157045714", func := "loop.example/g01025/laws.FnExactSickWeeks", spec := "fnExactSickWeeks", unfollowed := true, recurses := true, apart := false, narrowed := true }
def FnExactSickWeeksUptoSaid : Prop := fnExactSickWeeksUptoRow.holds Try.pinned (OpenSpec.upto fnExactSickWeeksSpec)

/-- 'laws.FnExactLastMember', WHERE WHAT IT READS IS OF BULK AT MOST 1048576: true; the input reads as it did. -/
def fnExactLastMemberUptoRow : OpenClaim := { program := "ytochnbljjlloiaa", sum := "3aac1e061444e0afff73ec159ed512095030e4779e7706f1deb2143157045714", func := "loop.example/g01025/laws.FnExactLastMember", spec := "fnExactLastMember", unfollowed := true, recurses := true, apart := false, narrowed := true }
def FnExactLastMemberUptoSaid : Prop := fnExactLastMemberUptoRow.holds Try.pinned (OpenSpec.upto fnExactLastMemberSpec)

/-- 'laws.FnExactLivingShares', WHERE WHAT IT READS IS OF BULK AT MOST 1048576: true; the input reads as it did. -/
def fnExactLivingSharesUptoRow : OpenClaim := { program := "ytochnbljjlloiaa", sum := "3aac1e061444e0afff73ec159ed512095030e4779e7706f1deb2143157045714", func := "loop.example/g01025/laws.FnExactLivingShares", spec := "fnExactLivingShares", unfollowed := true, recurses := true, apart := false, narrowed := true }
def FnExactLivingSharesUptoSaid : Prop := fnExactLivingSharesUptoRow.holds Try.pinned (OpenSpec.upto fnExactLivingSharesSpec)

/-- 'laws.FnSickWeeks', WHERE WHAT IT READS IS OF BULK AT MOST 1048576: true; the input reads as it did. -/
def fnSickWeeksUptoRow : OpenClaim := { program := "ytochnbljjlloiaa", sum := "3aac1e061444e0afff73ec159ed512095030e4779e7706f1deb2143157045714", func := "loop.example/g01025/laws.FnSickWeeks", spec := "fnSickWeeks", unfollowed := true, recurses := true, apart := false, narrowed := true }
def FnSickWeeksUptoSaid : Prop := fnSickWeeksUptoRow.holds Try.pinned (OpenSpec.upto fnSickWeeksSpec)

end Rows
end Go.Proofs.Ytochnbljjlloiaa
