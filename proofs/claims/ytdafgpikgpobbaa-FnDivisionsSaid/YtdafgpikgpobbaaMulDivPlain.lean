/-
  Plain facts on a product divided: the reference's division bit by bit, the codes of MultiplyDivide.
  Conditions: as each lemma says.
-/
import Derived.Below
namespace Go.Proofs.Ytdafgpikgpobbaa.MulDivPlain
set_option linter.unusedVariables false

/-- One bit more. -/
theorem md_step (A b c d : Int) (hc : 0 < c) : (2 * (A * b / c) + d * (b / c)) + (2 * (A * b % c) + d * (b % c)) / c = (2 * A + d) * b / c ∧ (2 * (A * b % c) + d * (b % c)) % c = (2 * A + d) * b % c := by
  have e1 := Int.mul_ediv_add_emod (A * b) c
  have e2 := Int.mul_ediv_add_emod b c
  have h : (2 * A + d) * b = (2 * (A * b % c) + d * (b % c)) + c * (2 * (A * b / c) + d * (b / c)) := by
    have h1 : (2 * A + d) * b = 2 * (A * b) + d * b := by rw [Int.add_mul, Int.mul_assoc]
    have h2 : c * (2 * (A * b / c) + d * (b / c)) = 2 * (c * (A * b / c)) + d * (c * (b / c)) := by
      rw [Int.mul_add, Int.mul_left_comm c 2, Int.mul_left_comm c d]
    have h3 : d * b = d * (c * (b / c)) + d * (b % c) := by rw [← Int.mul_add, e2]
    rw [h1, h2, h3]
    omega
  rw [h, Int.add_mul_ediv_left _ _ (by omega), Int.add_mul_emod_self_left]
  exact ⟨by omega, rfl⟩
/-- The bits of a number, from the left. -/
def top (a : Int) (j : Nat) : Int := a / 2 ^ j
theorem top_succ (a : Int) (j : Nat) : top a j = 2 * top a (j + 1) + top a j % 2 := by
  have : top a (j + 1) = top a j / 2 := by unfold top; rw [Int.pow_succ, Int.ediv_ediv_of_nonneg (Int.le_of_lt (Int.pow_pos (by omega)))]
  omega
theorem top_42 {a : Int} (h0 : 0 ≤ a) (h1 : a ≤ 1000000000000) : top a 42 = 0 := by
  unfold top
  exact Int.ediv_eq_zero_of_lt h0 (by have : (2 : Int) ^ 42 = 4398046511104 := by decide
                                      omega)
theorem top_0 (a : Int) : top a 0 = a := by unfold top; simp
theorem top_bd {a : Int} (h0 : 0 ≤ a) (j : Nat) : 0 ≤ top a j ∧ top a j ≤ a := by
  unfold top
  have hp : (0 : Int) < 2 ^ j := Int.pow_pos (by omega)
  exact ⟨Int.ediv_nonneg h0 (Int.le_of_lt hp), Int.ediv_le_self _ h0⟩
theorem q_mono {a b c : Int} (h0 : 0 ≤ a) (hb : 0 ≤ b) (hc : 0 < c) (j : Nat) : top a j * b / c ≤ a * b / c :=
  Int.ediv_le_ediv hc (Int.mul_le_mul_of_nonneg_right (top_bd h0 j).2 hb)
def okB (a b c : Int) : Bool := decide (0 ≤ a ∧ a ≤ 1000000000000) && (decide (0 ≤ b ∧ b ≤ 1000000000000000000) && decide (1 ≤ c ∧ c ≤ 1000000000000000000))
def fits (a b c : Int) : Bool := okB a b c && decide (a * b / c ≤ 1000000000000000000)
def mdQ (a b c : Int) : Int := if fits a b c then a * b / c else 0
def mdR (a b c : Int) : Int := if fits a b c then a * b % c else 0
def mdC (a b c : Int) : Int := if okB a b c then (if fits a b c then 0 else 3) else 2
end Go.Proofs.Ytdafgpikgpobbaa.MulDivPlain
