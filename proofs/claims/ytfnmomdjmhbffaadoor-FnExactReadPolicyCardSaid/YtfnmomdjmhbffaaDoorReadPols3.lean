/-
  Contract of the laws' eqPolicy at equal policies; what two readers of policies share.
  Conditions: none.
-/
import Derived.Test.YtfnmomdjmhbffaaDoorReadPols2
namespace Go.Proofs.YtfnmomdjmhbffaaDoor.ReadPols
open Go.RowKit Mem Texts
set_option linter.unusedVariables false

set_option maxRecDepth 100000 in
theorem eqPolicy_same (a b c d f : Int) (w : World) :
    Calls Tryd.prog 6 #[.agg #[.int .i64 a, .int .i64 b, .int .i64 c, .int .i64 d, .int .i64 f], .agg #[.int .i64 a, .int .i64 b, .int .i64 c, .int .i64 d, .int .i64 f]] w fun r w' => r = .returned (.bool true) ∧ Below w.heap.size w w' := by
  go_enter Tryd.func6, Tryd.ntmps6
  go_wp2_with fail
  go_ret
  exact ⟨rfl, by go_grown⟩
theorem pol_same {l : List UInt8} {w1 w2 v1 v2 : World} {e1 e2 : Ending} (h : PolEnd l w1 e1 v1) (g : PolEnd l w2 e2 v2) : e1 = e2 := by
  obtain ⟨a, b, c, d, f, ok, rfl, _, h⟩ := h
  obtain ⟨a', b', c', d', f', ok', rfl, _, g⟩ := g
  rcases h with ⟨rfl, h⟩ | ⟨rfl, rfl, rfl, rfl, rfl, rfl, h⟩
  · rcases g with ⟨rfl, g⟩ | ⟨_, _, _, _, _, _, g⟩
    · have := pol_uniq h g
      simp only [List.cons.injEq, and_true] at this
      obtain ⟨rfl, rfl, rfl, rfl, rfl⟩ := this
      rfl
    · exact absurd h (g _)
  · rcases g with ⟨_, g⟩ | ⟨rfl, rfl, rfl, rfl, rfl, rfl, g⟩
    · exact absurd g (h _)
    · rfl
end Go.Proofs.YtfnmomdjmhbffaaDoor.ReadPols
