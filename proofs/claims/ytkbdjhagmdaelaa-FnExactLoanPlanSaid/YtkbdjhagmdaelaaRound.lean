/-
  Contracts of the four roundings: the reference's l01Down, l01Up and the program's down, up.
  Conditions: the divisor is at least 1; the number divided lies in -9000000000000000000 .. 9000000000000000000.
-/
import Derived.Test.YtkbdjhagmdaelaaBase
import Derived.Test.YtkbdjhagmdaelaaPlain
namespace Go.Proofs.Ytkbdjhagmdaelaa.Round
open Go.RowKit
set_option linter.unusedVariables false

theorem l01Down_any (a b : Int) (w : World) (hb : 1 ≤ b) (hb2 : b ≤ 9000000000000000000) (h1 : -9000000000000000000 ≤ a) (h2 : a ≤ 9000000000000000000) :
    Calls Try.prog 56 #[.int .i64 a, .int .i64 b] w fun e w' => e = .returned (.int .i64 (a / b)) ∧ w = w' := by
  by_cases ha : 0 ≤ a
  · obtain ⟨q1, q2⟩ := Plain.div_bd a b ha hb
    obtain ⟨m1, m2⟩ := Plain.mod_bd a b hb
    go_enter Try.func56, Try.ntmps56
    go_wp2
    go_ret
    exact ⟨rfl, rfl⟩
  · have hn : a < 0 := by omega
    obtain ⟨q1, q2⟩ := Plain.tdiv_bd a b hn hb
    clear ha
    by_cases hm : a.tmod b < 0
    · have E := Lib.hid (Plain.ediv_neg_down a b hn (by omega) hm)
      go_enter Try.func56, Try.ntmps56
      go_wp2
      go_ret
      exact ⟨Base.ret_int E.out.symm, rfl⟩
    · have E := Lib.hid (Plain.ediv_neg_exact a b hn (by omega) hm)
      go_enter Try.func56, Try.ntmps56
      go_wp2
      go_ret
      exact ⟨Base.ret_int E.out.symm, rfl⟩

theorem l01Up_any (a b : Int) (w : World) (hb : 1 ≤ b) (hb2 : b ≤ 9000000000000000000) (h1 : 0 ≤ a) (h2 : a ≤ 9000000000000000000) :
    Calls Try.prog 51 #[.int .i64 a, .int .i64 b] w fun e w' => e = .returned (.int .i64 (Plain.upq a b)) ∧ w = w' := by
  obtain ⟨u1, u2⟩ := Plain.upq_bd a b h1 hb
  have hu : Hid (Plain.upq a b = -((-a) / b)) := rfl
  unfold Plain.upq at u1 u2
  go_enter Try.func51, Try.ntmps51
  go_wp2_with (go_at_call 56; refine (l01Down_any _ _ _ (by omega) (by omega) (by omega) (by omega)).mono ?_; rintro e w' ⟨rfl, rfl⟩)
  go_ret
  exact ⟨Base.ret_int hu.out.symm, rfl⟩

theorem down_any (a b : Int) (w : World) (hb : 1 ≤ b) (hb2 : b ≤ 9000000000000000000) (h1 : -9000000000000000000 ≤ a) (h2 : a ≤ 9000000000000000000) :
    Calls Try.prog 55 #[.int .i64 a, .int .i64 b] w fun e w' => e = .returned (.int .i64 (a / b)) ∧ w = w' := by
  by_cases ha : 0 ≤ a
  · obtain ⟨q1, q2⟩ := Plain.div_bd a b ha hb
    obtain ⟨m1, m2⟩ := Plain.mod_bd a b hb
    go_enter Try.func55, Try.ntmps55
    go_wp2
    go_ret
    exact ⟨rfl, rfl⟩
  · have hn : a < 0 := by omega
    obtain ⟨q1, q2⟩ := Plain.tdiv_bd a b hn hb
    clear ha
    by_cases hm : a.tmod b < 0
    · have E := Lib.hid (Plain.ediv_neg_down a b hn (by omega) hm)
      go_enter Try.func55, Try.ntmps55
      go_wp2
      go_ret
      exact ⟨Base.ret_int E.out.symm, rfl⟩
    · have E := Lib.hid (Plain.ediv_neg_exact a b hn (by omega) hm)
      go_enter Try.func55, Try.ntmps55
      go_wp2
      go_ret
      exact ⟨Base.ret_int E.out.symm, rfl⟩

theorem up_any (a b : Int) (w : World) (hb : 1 ≤ b) (hb2 : b ≤ 9000000000000000000) (h1 : 0 ≤ a) (h2 : a ≤ 9000000000000000000) :
    Calls Try.prog 50 #[.int .i64 a, .int .i64 b] w fun e w' => e = .returned (.int .i64 (Plain.upq a b)) ∧ w = w' := by
  obtain ⟨u1, u2⟩ := Plain.upq_bd a b h1 hb
  have hu : Hid (Plain.upq a b = -((-a) / b)) := rfl
  unfold Plain.upq at u1 u2
  go_enter Try.func50, Try.ntmps50
  go_wp2_with (go_at_call 55; refine (down_any _ _ _ (by omega) (by omega) (by omega) (by omega)).mono ?_; rintro e w' ⟨rfl, rfl⟩)
  go_ret
  exact ⟨Base.ret_int hu.out.symm, rfl⟩

end Go.Proofs.Ytkbdjhagmdaelaa.Round
