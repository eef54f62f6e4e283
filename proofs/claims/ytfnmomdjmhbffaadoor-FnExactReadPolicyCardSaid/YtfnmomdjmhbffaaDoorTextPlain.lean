/-
  Plain facts on decimal texts: digits one by one, zeros in front, the texts of months and money.
  Conditions: as each lemma says.
-/
import Derived.Lib.ItoaMem
import Derived.Lib.ItoaLen
import Derived.Lib.Repeat
namespace Go.Proofs.YtfnmomdjmhbffaaDoor.TextPlain
open Go
set_option linter.unusedVariables false

/-- The byte of a digit. -/
def dch (d : Nat) : UInt8 := UInt8.ofNat (48 + d)
theorem d1 (n : Nat) (h : n < 10) : Lib.decDigits n = [dch n] := by rw [Lib.decDigits, dif_pos h]; rfl
theorem dS (n : Nat) (h : 10 ≤ n) : Lib.decDigits n = Lib.decDigits (n / 10) ++ [dch (n % 10)] := by rw [Lib.decDigits, dif_neg (by omega)]; rfl
theorem d2 (n : Nat) (h : 10 ≤ n) (h2 : n < 100) : Lib.decDigits n = [dch (n / 10), dch (n % 10)] := by rw [dS n h, d1 _ (by omega)]; rfl
theorem d3 (n : Nat) (h : 100 ≤ n) (h2 : n < 1000) : Lib.decDigits n = [dch (n / 100), dch (n / 10 % 10), dch (n % 10)] := by
  rw [dS n (by omega), d2 _ (by omega) (by omega), Nat.div_div_eq_div_mul]; rfl
theorem d4 (n : Nat) (h : 1000 ≤ n) (h2 : n < 10000) : Lib.decDigits n = [dch (n / 1000), dch (n / 100 % 10), dch (n / 10 % 10), dch (n % 10)] := by
  rw [dS n (by omega), d3 _ (by omega) (by omega), Nat.div_div_eq_div_mul, Nat.div_div_eq_div_mul]; rfl

/-- A number with zeros in front, up to a length. -/
def pad (n : Int) (k : Nat) : List UInt8 := Lib.repeatL [48] (k - (Lib.itoa n).length) ++ Lib.itoa n
theorem pad2 (n : Nat) (h : n < 100) : pad (n : Int) 2 = [dch (n / 10), dch (n % 10)] := by
  unfold pad
  rw [Lib.itoa_nonneg]
  by_cases h1 : n < 10
  · rw [d1 n h1]
    have e1 : n / 10 = 0 := by omega
    have e2 : n % 10 = n := by omega
    rw [e1, e2]; rfl
  · rw [d2 n (by omega) h]; rfl
theorem pad4 (n : Nat) (h : n < 10000) : pad (n : Int) 4 = [dch (n / 1000), dch (n / 100 % 10), dch (n / 10 % 10), dch (n % 10)] := by
  unfold pad
  rw [Lib.itoa_nonneg]
  by_cases h1 : n < 10
  · rw [d1 n h1]
    have e1 : n / 1000 = 0 := by omega
    have e2 : n / 100 % 10 = 0 := by omega
    have e3 : n / 10 % 10 = 0 := by omega
    have e4 : n % 10 = n := by omega
    rw [e1, e2, e3, e4]; rfl
  · by_cases h2 : n < 100
    · rw [d2 n (by omega) h2]
      have e1 : n / 1000 = 0 := by omega
      have e2 : n / 100 % 10 = 0 := by omega
      have e3 : n / 10 % 10 = n / 10 := by omega
      rw [e1, e2, e3]; rfl
    · by_cases h3 : n < 1000
      · rw [d3 n (by omega) h3]
        have e1 : n / 1000 = 0 := by omega
        have e2 : n / 100 % 10 = n / 100 := by omega
        rw [e1, e2]; rfl
      · rw [d4 n (by omega) h]; rfl
theorem itoa1 (n : Int) (h : 0 ≤ n) (h2 : n < 10) : Lib.itoa n = [dch n.toNat] := by
  obtain ⟨k, rfl⟩ := Int.eq_ofNat_of_zero_le h
  rw [Lib.itoa_nonneg, d1 k (by omega), Int.toNat_natCast]

/-- The text of a month, of money. -/
def monT (n : Int) : List UInt8 := pad (n / 12) 4 ++ [45] ++ pad (n % 12 + 1) 2
def posT (n : Int) : List UInt8 := Lib.itoa (n / 100) ++ [46] ++ pad (n % 100) 2
def moneyT (n : Int) : List UInt8 := if n < 0 then [45] ++ posT (-n) else posT n

theorem mon_spec (n : Int) (h : 0 ≤ n) (h2 : n < 36000) :
    Lib.itoa (n / 12 / 1000) ++ Lib.itoa (n / 12 / 100 % 10) ++ Lib.itoa (n / 12 / 10 % 10) ++ Lib.itoa (n / 12 % 10) ++ [45] ++ Lib.itoa ((n % 12 + 1) / 10) ++ Lib.itoa ((n % 12 + 1) % 10) = monT n := by
  obtain ⟨y, hy⟩ := Int.eq_ofNat_of_zero_le (show 0 ≤ n / 12 by omega)
  obtain ⟨m, hm⟩ := Int.eq_ofNat_of_zero_le (show 0 ≤ n % 12 + 1 by omega)
  unfold monT
  rw [hy, hm, itoa1 _ (by omega) (by omega), itoa1 _ (by omega) (by omega), itoa1 _ (by omega) (by omega), itoa1 _ (by omega) (by omega), itoa1 _ (by omega) (by omega), itoa1 _ (by omega) (by omega), pad4 y (by omega), pad2 m (by omega)]
  have e1 : ((y : Int) / 1000).toNat = y / 1000 := by omega
  have e2 : ((y : Int) / 100 % 10).toNat = y / 100 % 10 := by omega
  have e3 : ((y : Int) / 10 % 10).toNat = y / 10 % 10 := by omega
  have e4 : ((y : Int) % 10).toNat = y % 10 := by omega
  have e5 : ((m : Int) / 10).toNat = m / 10 := by omega
  have e6 : ((m : Int) % 10).toNat = m % 10 := by omega
  rw [e1, e2, e3, e4, e5, e6]
  rfl
theorem pos_spec (n : Int) (h : 0 ≤ n) : Lib.itoa (n / 100) ++ [46] ++ Lib.itoa (n / 10 % 10) ++ Lib.itoa (n % 10) = posT n := by
  obtain ⟨k, hk⟩ := Int.eq_ofNat_of_zero_le (show 0 ≤ n % 100 by omega)
  unfold posT
  rw [hk, pad2 k (by omega), itoa1 (n / 10 % 10) (by omega) (by omega), itoa1 (n % 10) (by omega) (by omega)]
  have e5 : (n / 10 % 10).toNat = k / 10 := by omega
  have e6 : (n % 10).toNat = k % 10 := by omega
  rw [e5, e6]
  simp
theorem pad_length (n : Int) (k : Nat) (h0 : -9223372036854775808 ≤ n) (h1 : n ≤ 9223372036854775807) (hk : k ≤ 100) : (pad n k).length ≤ 121 := by
  unfold pad
  have := Lib.itoa_length_le n h0 h1
  rw [List.length_append, Lib.repeatL_length]
  simp; omega
end Go.Proofs.YtfnmomdjmhbffaaDoor.TextPlain
