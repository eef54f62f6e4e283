/-
  Contract of the laws' copy of a policy.
  Conditions: none.
-/
import Derived.Test.YtmngljpncglchaaDoorMem
import Derived.Handy
namespace Go.Proofs.YtmngljpncglchaaDoor.ToPolicy
open Go.RowKit Mem
set_option linter.unusedVariables false

set_option maxRecDepth 100000 in
theorem toPolicy_any (a b c d e : Int) (w : World) :
    Calls Tryd.prog 43 #[.agg #[.int .i64 a, .int .i64 b, .int .i64 c, .int .i64 d, .int .i64 e]] w fun r w' => r = .returned (.agg #[.int .i64 a, .int .i64 b, .int .i64 c, .int .i64 d, .int .i64 e]) ∧ Below w.heap.size w w' := by
  go_enter Tryd.func43, Tryd.ntmps43
  go_wp2_with fail
  refine bodyPost_ret (v := .agg #[.int .i64 a, .int .i64 b, .int .i64 c, .int .i64 d, .int .i64 e]) (by simp [results, Tryd.results43, go_sem]) rfl ⟨rfl, ?_⟩
  go_grown
end Go.Proofs.YtmngljpncglchaaDoor.ToPolicy
