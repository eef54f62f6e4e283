/-
  Contracts of the four roundings: the reference's l01Down, l01Up and the program's down, up.
  Conditions: the divisor is at least 1; the number divided lies in -9000000000000000000 .. 9000000000000000000.
-/
import Derived.Test.YtochnbljjlloiaaBase
import Derived.Test.YtochnbljjlloiaaPlain
namespace Go.Proofs.Ytochnbljjlloiaa.Round
open Go.RowKit
set_option linter.unusedVariables false

theorem l01Down_any (a b : Int) (w : World) (hb : 1 ≤ b) (hb2 : b ≤ 9000000000000000000) (h1 : -9000000000000000000 ≤ a) (h2 : a ≤ 9000000000000000000) :
    Calls Try.prog 86 #[.int .i64 a, .int .i64 b] w fun e w' => e = .returned (.int .i64 (a / b)) ∧ w = w' := by
  by_cases ha : 0 ≤ a
  · obtain ⟨q1, q2⟩ := Plain.div_bd a b ha hb
    obtain ⟨m1, m2⟩ := Plain.mod_bd a b hb
    go_enter Try.func86, Try.ntmps86
    go_wp2
    go_ret
    exact ⟨rfl, rfl⟩
  · have hn : a < 0 := by omega
    obtain ⟨q1, q2⟩ := Plain.tdiv_bd a b hn hb
    clear ha
    by_cases hm : a.tmod b < 0
    · have E := Lib.hid (Plain.ediv_neg_down a b hn (by omega) hm)
      go_enter Try.func86, Try.ntmps86
      go_wp2
      go_ret
      exact ⟨Base.ret_int E.out.symm, rfl⟩
    · have E := Lib.hid (Plain.ediv_neg_exact a b hn (by omega) hm)
      go_enter Try.func86, Try.ntmps86
      go_wp2
      go_ret
      exact ⟨Base.ret_int E.out.symm, rfl⟩

theorem l01Up_any (a b : Int) (w : World) (hb : 1 ≤ b) (hb2 : b ≤ 9000000000000000000) (h1 : 0 ≤ a) (h2 : a ≤ 9000000000000000000) :
    Calls Try.prog 73 #[.int .i64 a, .int .i64 b] w fun e w' => e = .returned (.int .i64 (Plain.upq a b)) ∧ w = w' := by
  obtain ⟨u1, u2⟩ := Plain.upq_bd a b h1 hb
  have hu : Hid (Plain.upq a b = -((-a) / b)) := rfl
  unfold Plain.upq at u1 u2
  go_enter Try.func73, Try.ntmps73
  go_wp2_with (go_at_call 86; refine (l01Down_any _ _ _ (by omega) (by omega) (by omega) (by omega)).mono ?_; rintro e w' ⟨rfl, rfl⟩)
  go_ret
  exact ⟨Base.ret_int hu.out.symm, rfl⟩

theorem down_any (a b : Int) (w : World) (hb : 1 ≤ b) (hb2 : b ≤ 9000000000000000000) (h1 : -9000000000000000000 ≤ a) (h2 : a ≤ 9000000000000000000) :
    Calls Try.prog 87 #[.int .i64 a, .int .i64 b] w fun e w' => e = .returned (.int .i64 (a / b)) ∧ w = w' := by
  by_cases ha : 0 ≤ a
  · obtain ⟨q1, q2⟩ := Plain.div_bd a b ha hb
    obtain ⟨m1, m2⟩ := Plain.mod_bd a b hb
    go_enter Try.func87, Try.ntmps87
    go_wp2
    go_ret
    exact ⟨rfl, rfl⟩
  · have hn : a < 0 := by omega
    obtain ⟨q1, q2⟩ := Plain.tdiv_bd a b hn hb
    clear ha
    by_cases hm : a.tmod b < 0
    · have E := Lib.hid (Plain.ediv_neg_down a b hn (by omega) hm)
      go_enter Try.func87, Try.ntmps87
      go_wp2
      go_ret
      exact ⟨Base.ret_int E.out.symm, rfl⟩
    · have E := Lib.hid (Plain.ediv_neg_exact a b hn (by omega) hm)
      go_enter Try.func87, Try.ntmps87
      go_wp2
      go_ret
      exact ⟨Base.ret_int E.out.symm, rfl⟩

theorem up_any (a b : Int) (w : World) (hb : 1 ≤ b) (hb2 : b ≤ 9000000000000000000) (h1 : 0 ≤ a) (h2 : a ≤ 9000000000000000000) :
    Calls Try.prog 74 #[.int .i64 a, .int .i64 b] w fun e w' => e = .returned (.int .i64 (Plain.upq a b)) ∧ w = w' := by
  obtain ⟨u1, u2⟩ := Plain.upq_bd a b h1 hb
  have hu : Hid (Plain.upq a b = -((-a) / b)) := rfl
  unfold Plain.upq at u1 u2
  go_enter Try.func74, Try.ntmps74
  go_wp2_with (go_at_call 87; refine (down_any _ _ _ (by omega) (by omega) (by omega) (by omega)).mono ?_; rintro e w' ⟨rfl, rfl⟩)
  go_ret
  exact ⟨Base.ret_int hu.out.symm, rfl⟩

end Go.Proofs.Ytochnbljjlloiaa.Round
