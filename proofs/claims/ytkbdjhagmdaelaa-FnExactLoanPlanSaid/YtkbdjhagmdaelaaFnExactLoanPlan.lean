/-
  Proved: the law FnExactLoanPlan returns true, for every input.
  Conditions: none: the given statement Rows.FnExactLoanPlanSaid, as it stands.
-/
import Derived.Test.YtkbdjhagmdaelaaRows
import Derived.WalkKit
import Derived.ProofKit
import Derived.OpenShut
import Derived.ShutString
import Derived.ChangeOld
import Derived.Below
import Derived.IntWalk
import Derived.Test.YtkbdjhagmdaelaaBase
import Derived.Test.YtkbdjhagmdaelaaLoanPlans
import Derived.Test.YtkbdjhagmdaelaaHelpers
namespace Go.Proofs.Ytkbdjhagmdaelaa.fnExactLoanPlan
open Go.ChangeShapes Go.WideShapes Go.ChangeAt Go.RowKit
open Go.ChangeMaps (open_string shut_string)
set_option linter.unusedVariables false

theorem own : ownKnob Try.prog.godebug = none := by kernel_rfl

open Mem

set_option maxHeartbeats 400000 in
theorem walk (a0 a1 a2 : Int) (w0 : (Lit.int .i64 a0).wf = true) (w1 : (Lit.int .i64 a1).wf = true) (w2 : (Lit.int .i64 a2).wf = true) (w : World) :
    Calls Try.prog 10 #[.int .i64 a0, .int .i64 a1, .int .i64 a2] w fun e w' => e = .returned (.bool true) ∧ Below w.heap.size w w' := by
  clear w0 w1 w2
  have hlen := LoanPlans.planA_length a0 a1 a2
  have C1 := Lib.hid (LoanPlans.specLoanPlan_any a0 a1 a2)
  have C2 := Lib.hid (LoanPlans.implLoanPlan_any a0 a1 a2)
  generalize LoanPlans.planA a0 a1 a2 = xs at *
  generalize LoanPlans.codeA a0 a1 a2 = c at *
  go_enter Try.func10, Try.ntmps10
  go_wp2_with fail
  refine (C1.out _).mono ?_; rintro e w1 ⟨v1, rfl, hs1, hb1⟩
  go_wp2_with fail
  refine (C2.out _).mono ?_; rintro e w2 ⟨v2, rfl, hs2, hb2⟩
  go_wp2_with fail
  refine (Lists.eqInt64S_yes _ _ xs _ hs2.rd (hs1.rd.below hb2)).mono ?_; rintro e w3 ⟨rfl, hb3⟩
  go_wp2_with fail
  refine (Helpers.markInt64S_any _ xs w1.heap.size 1 _ (hs2.below hb3) (by omega) (by omega) (by omega)).mono ?_; rintro e w4 ⟨rfl, hs4, hb4⟩
  go_wp2_with fail
  refine (Helpers.heldInt64S_any _ xs.length 1 _ hs4.rd (by omega) (by omega) (by omega)).mono ?_; rintro e w5 ⟨rfl, hb5⟩
  go_wp2_with fail
  refine (C2.out _).mono ?_; rintro e w6 ⟨v6, rfl, hs6, hb6⟩
  have hB := Lib.hid (blB (Nat.le_trans hb2.size (Nat.le_trans hb3.size (Nat.le_trans hb4.size hb5.size))) (blB (Nat.le_trans hb2.size (Nat.le_trans hb3.size hb4.size)) ((bl hb2 hb3).trans hb4) hb5) hb6)
  go_wp2_with fail
  refine (Lists.eqInt64S_yes _ _ xs _ hs6.rd (hs1.rd.below hB.out)).mono ?_; rintro e w7 ⟨rfl, hb7⟩
  go_wp2_with fail
  refine (Helpers.heldInt64S_any _ xs.length 1 _ (((hs4.rd.below hb5).below hb6).below hb7) (by omega) (by omega) (by omega)).mono ?_; rintro e w8 ⟨rfl, hb8⟩
  go_wp2
  go_ret
  exact ⟨rfl, bl (bl (bl hb1 hB.out) hb7) hb8⟩

set_option maxRecDepth 100000 in
theorem lifted (os : Os) (started : os.Started) (H : Type) (enc : TypeId × Value → H) :
    ReturnsInHanded {} Try.checked os 10 .any (Rows.fnExactLoanPlanSpec.pre6 enc Try.prog Try.f10 Rows.fnExactLoanPlanRow.domain false) (Rows.fnExactLoanPlanSpec.post enc Try.prog Try.f10 false true false false) := by
  refine returnsInHanded_of_change (C := Try.checked) own started (by kernel_rfl) Try.func10
    (ChangeSpec.witness6 (enc := enc) (C := Try.checked) false ⟨#[], #[.int .i64 0, .int .i64 0, .int .i64 0], []⟩ 8 (by kernel_rfl) (by kernel_rfl) (by kernel_rfl) (by kernel_rfl)) ?_
  intro W base args ds gs before hval0 hW hcnd _
  have hval : ∀ (j : Nat) t v, Try.f10.params[j]? = some t → args[j]? = some v → Value.okWide Try.prog W .any base t v := hval0
  have hW' := hW
  obtain ⟨p, q, hA0, hV, rfl, hfz, hnd⟩ := hW
  have hA : DataW.TrodAll enc Try.prog W 0 (fun _ => true) true Try.f10.params.toList args.toList ds p := hA0
  rw [Try.params10] at hA hval
  obtain ⟨v0, vs0, d0, ds0, p0, q0, hargs, rfl, rfl, h0, r0⟩ := trodAll_cons hA
  obtain ⟨v1, vs1, d1, ds1, p1, q1, rfl, rfl, rfl, h1, r1⟩ := trodAll_cons r0
  obtain ⟨v2, vs2, d2, ds2, p2, q2, rfl, rfl, rfl, h2, r2⟩ := trodAll_cons r1
  obtain ⟨rfl, rfl, rfl⟩ := trodAll_nil r2
  obtain rfl : args = #[v0, v1, v2] := by cases args; simp_all
  obtain ⟨rfl, rfl⟩ := trodVars_none hV
  obtain ⟨a0, rfl, rfl, rfl, w0⟩ := open_int Try.underlying2 (hval 0 2 v0 rfl rfl) h0
  obtain ⟨a1, rfl, rfl, rfl, w1⟩ := open_int Try.underlying2 (hval 1 2 v1 rfl rfl) h1
  obtain ⟨a2, rfl, rfl, rfl, w2⟩ := open_int Try.underlying2 (hval 2 2 v2 rfl rfl) h2
  clear hA0 hval0
  simp only [List.append_nil] at hW'
  refine (walk a0 a1 a2 w0 w1 w2 W).mono fun e W' ⟨he, bel⟩ => ?_
  subst he
  exact ⟨_, rfl, _, _, _, [], [], [], hW', trodAll_mk1 (shut_bool Try.underlying4 _), (trodAll_cons_mk (shut_int Try.underlying2 w0) (trodAll_cons_mk (shut_int Try.underlying2 w1) (trodAll_cons_mk (shut_int Try.underlying2 w2) trodAll_mk0))), rfl, bel.frame _, fun h => by cases h⟩

theorem over : Rows.fnExactLoanPlanRow.holds Try.pinned (OpenSpec.ofChange Rows.fnExactLoanPlanSpec) :=
  OpenClaim.holds_of_wide 10 Try.f10 rfl rfl rfl rfl rfl rfl rfl ⟨rfl, rfl, rfl, rfl, rfl⟩ rfl rfl rfl rfl rfl (by kernel_rfl) Try.func10 (by kernel_rfl)
    (of_decide_eq_true (by kernel_rfl)) (by unfold Func.isWrapper; first | (rw [if_pos (by decide +kernel)]; kernel_rfl) | (rw [if_neg (by decide +kernel)]; exact ⟨rfl, rfl⟩))
    (fun os started H enc _ => lifted os started H enc)

theorem proved : Rows.FnExactLoanPlanSaid := over
end Go.Proofs.Ytkbdjhagmdaelaa.fnExactLoanPlan
