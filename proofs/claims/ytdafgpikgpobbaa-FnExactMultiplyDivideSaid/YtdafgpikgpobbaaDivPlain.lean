/-
  Plain facts on the division of a number of four digits by one of two, digit by digit (base 4294967296), with no program in sight.
  Conditions: as each lemma says.
-/
import Derived.Below
namespace Go.Proofs.Ytdafgpikgpobbaa.DivPlain
set_option linter.unusedVariables false

/-- The guess of a digit is not too small, and at most two too great. -/
theorem guess (u d y y1 y0 : Nat) (hy : y = y1 * 4294967296 + y0) (h0 : y0 < 4294967296) (h1 : 2147483648 ≤ y1) (hu : u < y) (hd : d < 4294967296) :
    (u * 4294967296 + d) / y ≤ u / y1 ∧ u / y1 ≤ 4294967297 ∧ (u * 4294967296 + d) / y < 4294967296 ∧ u / y1 * y1 + u % y1 = u ∧ u % y1 < y1 := by
  have e := Nat.div_add_mod u y1
  have l := Nat.mod_lt u (by omega : y1 > 0)
  rw [Nat.mul_comm] at e
  have hq : (u * 4294967296 + d) / y < 4294967296 := by
    rw [Nat.div_lt_iff_lt_mul (by omega)]; omega
  refine ⟨?_, ?_, hq, e, l⟩
  · rw [Nat.le_div_iff_mul_le (by omega)]
    have m := Nat.div_mul_le_self (u * 4294967296 + d) y
    generalize (u * 4294967296 + d) / y = q at m hq ⊢
    rw [hy, Nat.mul_add, ← Nat.mul_assoc] at m
    generalize q * y1 = P at m ⊢
    generalize q * y0 = Q at m
    omega
  · have : u / y1 < 4294967298 := by
      rw [Nat.div_lt_iff_lt_mul (by omega)]; omega
    omega

theorem again (u d y y1 y0 q r : Nat) (hy : y = y1 * 4294967296 + y0) (hu : u < y) (hd : d < 4294967296) (hi : q * y1 + r = u) (hq : (u * 4294967296 + d) / y ≤ q)
    (h : 4294967296 ≤ q ∨ 4294967296 * r + d < q * y0) : (u * 4294967296 + d) / y ≤ q - 1 ∧ 1 ≤ q ∧ (q - 1) * y1 + (r + y1) = u := by
  have hlt : (u * 4294967296 + d) / y < q := by
    rw [Nat.div_lt_iff_lt_mul (by omega)]
    rcases h with h | h
    · have := Nat.mul_le_mul_right y h; omega
    · rw [hy, Nat.mul_add, ← Nat.mul_assoc]
      generalize q * y1 = P at hi ⊢
      generalize q * y0 = Q at h ⊢
      omega
  clear hq h hd hu hy
  generalize (u * 4294967296 + d) / y = T at hlt ⊢
  refine ⟨by omega, by omega, ?_⟩
  obtain ⟨p, rfl⟩ : ∃ p, q = p + 1 := ⟨q - 1, by omega⟩
  rw [Nat.add_mul] at hi
  simp only [Nat.add_sub_cancel]
  omega

set_option maxRecDepth 100000 in
theorem stop (u d y y1 y0 q r : Nat) (hy : y = y1 * 4294967296 + y0) (hpos : 0 < y) (hi : q * y1 + r = u) (hq : (u * 4294967296 + d) / y ≤ q)
    (h : q * y0 ≤ 4294967296 * r + d) : (u * 4294967296 + d) / y = q := by
  refine Nat.le_antisymm hq ?_
  rw [Nat.le_div_iff_mul_le hpos, hy, Nat.mul_add, ← Nat.mul_assoc]
  generalize q * y1 = P at hi ⊢
  generalize q * y0 = Q at h ⊢
  omega

set_option maxRecDepth 100000 in
theorem leave (u d y y1 y0 q r : Nat) (hy : y = y1 * 4294967296 + y0) (h0 : y0 < 4294967296) (hpos : 0 < y) (hi : q * y1 + r = u) (hq : (u * 4294967296 + d) / y ≤ q) (hB : q ≤ 4294967296)
    (h : 4294967296 ≤ r) : (u * 4294967296 + d) / y = q := by
  refine stop u d y y1 y0 q r hy hpos hi hq ?_
  have := Nat.mul_le_mul hB (by omega : y0 ≤ 4294967295)
  omega

/-- Two digits make the quotient. -/
theorem joinB (B m d' y : Nat) (hpos : 0 < y) :
    (m * B + d') / y = m / y * B + (m % y * B + d') / y ∧ (m * B + d') % y = (m % y * B + d') % y := by
  have e := Nat.div_add_mod m y
  have h : m * B + d' = (m % y * B + d') + y * (m / y * B) := by
    calc m * B + d' = (y * (m / y) + m % y) * B + d' := by rw [e]
      _ = y * (m / y) * B + m % y * B + d' := by rw [Nat.add_mul]
      _ = y * (m / y * B) + m % y * B + d' := by rw [Nat.mul_assoc]
      _ = (m % y * B + d') + y * (m / y * B) := by omega
  constructor
  · rw [h, Nat.add_mul_div_left _ _ hpos, Nat.add_comm]
  · rw [h, Nat.add_mul_mod_self_left]

/-- Shifted numbers have the same quotient, and a shifted remainder. -/
theorem unshift (n y s : Nat) (hy : 0 < y) : n * 2 ^ s / (y * 2 ^ s) = n / y ∧ n * 2 ^ s % (y * 2 ^ s) / 2 ^ s = n % y := by
  have hp : 0 < 2 ^ s := Nat.two_pow_pos s
  refine ⟨Nat.mul_div_mul_right n y hp, ?_⟩
  rw [Nat.mul_mod_mul_right, Nat.mul_div_cancel _ hp]

/-- Two digits, shifted back: the quotient and the remainder. -/
theorem div_final (n y s un32 un1 un0 : Nat) (hy : 0 < y) (hN : n * 2 ^ s = (un32 * 4294967296 + un1) * 4294967296 + un0) :
    (un32 * 4294967296 + un1) / (y * 2 ^ s) * 4294967296 + ((un32 * 4294967296 + un1) % (y * 2 ^ s) * 4294967296 + un0) / (y * 2 ^ s) = n / y ∧ ((un32 * 4294967296 + un1) % (y * 2 ^ s) * 4294967296 + un0) % (y * 2 ^ s) / 2 ^ s = n % y := by
  have hp : 0 < y * 2 ^ s := Nat.mul_pos hy (Nat.two_pow_pos s)
  obtain ⟨j1, j2⟩ := joinB 4294967296 (un32 * 4294967296 + un1) un0 (y * 2 ^ s) hp
  obtain ⟨u1, u2⟩ := unshift n y s hy
  rw [hN] at u1 u2
  rw [← j1, ← j2]
  exact ⟨u1, u2⟩
/-- The shifted number, digit by digit. -/
theorem shifted (hi lo s : Nat) (hs : s ≤ 64) : (hi * 18446744073709551616 + lo) * 2 ^ s = (hi * 2 ^ s + lo / 2 ^ (64 - s)) * 18446744073709551616 + lo * 2 ^ s % 18446744073709551616 := by
  have e : (18446744073709551616 : Nat) = 2 ^ (64 - s) * 2 ^ s := by rw [← Nat.pow_add, Nat.sub_add_cancel hs]
  have h1 : lo * 2 ^ s / 18446744073709551616 = lo / 2 ^ (64 - s) := by
    rw [e, Nat.mul_div_mul_right _ _ (Nat.two_pow_pos s)]
  have h2 := Nat.div_add_mod (lo * 2 ^ s) 18446744073709551616
  rw [h1] at h2
  generalize lo / 2 ^ (64 - s) = x at *
  generalize lo * 2 ^ s % 18446744073709551616 = y at *
  rw [Nat.add_mul, ← h2, Nat.add_mul, Nat.mul_right_comm]
  omega
end Go.Proofs.Ytdafgpikgpobbaa.DivPlain
