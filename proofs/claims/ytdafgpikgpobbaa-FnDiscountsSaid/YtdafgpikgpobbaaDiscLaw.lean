/-
  Contracts of DiscountOf, CertainAnnuity and PresentValue of both packages for all arguments; what the law on discounts asks.
  Conditions: none (the list reads: Mem.Rd).
-/
import Derived.Test.YtdafgpikgpobbaaPresent
import Derived.Test.YtdafgpikgpobbaaLikes
namespace Go.Proofs.Ytdafgpikgpobbaa.DiscLaw
open Go.RowKit Mem Present
set_option linter.unusedVariables false

def dOk (r y : Int) : Bool := decide (0 ≤ r ∧ r ≤ 200 ∧ 0 ≤ y ∧ y ≤ 120)
def dV (r y : Int) : Int := if dOk r y then Plain.disc r y.toNat else 0
def aV (r y : Int) : Int := if dOk r y then Plain.dsum r 0 y.toNat else 0
def dC (r y : Int) : Int := if dOk r y then 0 else 2
def pOk (xs : List Int) (r : Int) : Bool := decide (0 ≤ r ∧ r ≤ 200 ∧ xs.length ≤ 120) && within 0 1000000000 xs
def pV (xs : List Int) (r : Int) : Int := if pOk xs r then pv r xs else 0
def pC (xs : List Int) (r : Int) : Int := if pOk xs r then 0 else 2
theorem pOk_of {xs : List Int} {r : Int} (h : pOk xs r = true) : (0 ≤ r ∧ r ≤ 200 ∧ xs.length ≤ 120) ∧ within 0 1000000000 xs = true := by simpa [pOk] using h
theorem pOk_not {xs : List Int} {r : Int} (h : ¬ pOk xs r = true) : 120 < xs.length ∨ within 0 1000000000 xs = false ∨ r < 0 ∨ 200 < r := by
  cases hw : within 0 1000000000 xs with
  | false => exact .inr (.inl rfl)
  | true =>
    have : ¬ (0 ≤ r ∧ r ≤ 200 ∧ xs.length ≤ 120) := by intro g; exact h (by unfold pOk; rw [hw, decide_eq_true g]; rfl)
    omega

theorem disc_le (r : Int) (h : 0 ≤ r) (k : Nat) : Plain.disc r (k + 1) ≤ Plain.disc r k := by
  have b := Plain.disc_bd r h k
  rw [Plain.disc_succ]
  refine Int.ediv_le_of_le_mul (by omega) ?_
  have := Int.mul_le_mul_of_nonneg_left (show 1000 ≤ 1000 + r by omega) b.1
  omega
/-- What the law on discounts asks of discounts. -/
theorem disc_facts (r y : Int) (h : dC r y = 0) : (y = 0 → dV r y = 1000000000 ∧ aV r y = 0) ∧ (¬ y = 0 → dC r (y - 1) = 0 ∧ dV r y ≤ dV r (y - 1) ∧ aV r (y - 1) + dV r (y - 1) = aV r y ∧ 0 ≤ aV r (y - 1) ∧ aV r (y - 1) ≤ 200000000000 ∧ 0 ≤ dV r (y - 1) ∧ dV r (y - 1) ≤ 1000000000 ∧ 0 < y ∧ y ≤ 120) := by
  unfold dC at h
  by_cases hk : dOk r y = true
  · have hb : 0 ≤ r ∧ r ≤ 200 ∧ 0 ≤ y ∧ y ≤ 120 := by simpa [dOk] using hk
    constructor
    · rintro rfl
      unfold dV aV; rw [if_pos hk, if_pos hk]; exact ⟨rfl, rfl⟩
    · intro hy
      have hk2 : dOk r (y - 1) = true := by unfold dOk; exact decide_eq_true (by omega)
      obtain ⟨n, rfl⟩ : ∃ n : Nat, y = (n : Int) + 1 := ⟨(y - 1).toNat, by omega⟩
      have e1 : ((n : Int) + 1).toNat = n + 1 := by omega
      have e2 : ((n : Int) + 1 - 1).toNat = n := by omega
      have b := Plain.disc_bd r hb.1 n
      have s := Plain.dsum_bd r hb.1 0 n
      have es : Plain.dsum r 0 (n + 1) = Plain.dsum r 0 n + Plain.disc r (0 + n) := rfl
      rw [Nat.zero_add] at es
      unfold dC dV aV
      rw [if_pos hk, if_pos hk, if_pos hk2, if_pos hk2, if_pos hk2, e1, e2, es]
      exact ⟨rfl, disc_le r hb.1 n, rfl, s.1, by have := s.2; omega, b.1, b.2, by omega, by omega⟩
  · rw [if_neg hk] at h; exact absurd h (by decide)

theorem parts_sum (r : Int) (h : 0 ≤ r) (xs : List Int) (hw : within 0 1000000000 xs = true) (k : Nat) (hk : k ≤ xs.length) : 1000000000 * pw r xs k + pr r xs k ≤ 1000000000 * (xs.take k).sum := by
  induction k with
  | zero => simp [pw, pr]
  | succ k ih =>
    have g := within_get hw k (by omega)
    have b := Plain.disc_bd r h k
    have m := Int.mul_le_mul_of_nonneg_left b.2 g.1
    rw [sum_take_succ xs k (by omega)]
    have i := ih (by omega)
    show 1000000000 * (pw r xs k + xs.getD k 0 * Plain.disc r k / 1000000000) + (pr r xs k + xs.getD k 0 * Plain.disc r k % 1000000000) ≤ _
    omega
theorem disc_zero (k : Nat) : Plain.disc 0 k = 1000000000 := by
  induction k with
  | zero => rfl
  | succ k ih => rw [Plain.disc_succ, ih]; rfl
theorem parts_zero (xs : List Int) (k : Nat) (hk : k ≤ xs.length) : pw 0 xs k = (xs.take k).sum ∧ pr 0 xs k = 0 := by
  induction k with
  | zero => simp [pw, pr]
  | succ k ih =>
    obtain ⟨i1, i2⟩ := ih (by omega)
    rw [sum_take_succ xs k (by omega)]
    show pw 0 xs k + xs.getD k 0 * Plain.disc 0 k / 1000000000 = _ ∧ pr 0 xs k + xs.getD k 0 * Plain.disc 0 k % 1000000000 = 0
    rw [disc_zero]
    omega
theorem present_facts (xs : List Int) (r : Int) (h : pC xs r = 0) : pV xs r ≤ xs.sum ∧ (r = 0 → pV xs r = xs.sum) ∧ within (-1000000000) 1000000000 xs = true := by
  unfold pC at h
  by_cases hk : pOk xs r = true
  · obtain ⟨⟨h1, h2, h3⟩, hw⟩ := pOk_of hk
    unfold pV; rw [if_pos hk]
    refine ⟨?_, ?_, ?_⟩
    · have := parts_sum r h1 xs hw xs.length (Nat.le_refl _)
      rw [List.take_length] at this
      have := Plain.upq_le_of (pr r xs xs.length) 1000000000 (xs.sum - pw r xs xs.length) (by omega) (by omega)
      unfold pv; omega
    · rintro rfl
      have := parts_zero xs xs.length (Nat.le_refl _)
      rw [List.take_length] at this
      unfold pv; rw [this.1, this.2]
      show xs.sum + Plain.upq 0 1000000000 = _
      have : Plain.upq 0 1000000000 = 0 := by decide
      omega
    · refine within_of fun i hi => ?_
      have := within_get hw i hi; omega
  · rw [if_neg hk] at h; exact absurd h (by decide)

theorem specDiscountOf_any (r y : Int) (w : World) : Calls Try.prog 53 #[.int .i64 r, .int .i64 y] w fun e w' => e = .returned (.tuple #[.int .i64 (dV r y), .int .i64 (dC r y)]) ∧ Below w.heap.size w w' := by
  by_cases hk : dOk r y = true
  · have hb : 0 ≤ r ∧ r ≤ 200 ∧ 0 ≤ y ∧ y ≤ 120 := by simpa [dOk] using hk
    obtain ⟨r1, r2, y1, y2⟩ := hb
    have V : Hid (dV r y = Plain.disc r y.toNat ∧ dC r y = 0) := by show _ ∧ _; unfold dV dC; rw [if_pos hk, if_pos hk]; exact ⟨rfl, rfl⟩
    clear hk
    go_enter Try.func53, Try.ntmps53
    go_wp2_with (first
      | (go_at_call 65; refine (Base.l01In_yes _ _ _ _ (by omega) (by omega)).mono ?_; rintro e w' ⟨rfl, rfl⟩)
      | (go_at_call 65; refine (Base.l01In_no _ _ _ _ (by omega)).mono ?_; rintro e w' ⟨rfl, rfl⟩)
      | (go_at_call 63; refine (Base.inRange_yes _ _ _ _ (by omega) (by omega)).mono ?_; rintro e w' ⟨rfl, rfl⟩)
      | (go_at_call 63; refine (Base.inRange_no _ _ _ _ (by omega)).mono ?_; rintro e w' ⟨rfl, rfl⟩)
      | (go_at_call 70; refine (Base.spec_l01Money_yes _ _ (by omega) (by omega)).mono ?_; rintro e w' ⟨rfl, rfl⟩)
      | (go_at_call 70; refine (Base.spec_l01Money_no _ _ (by omega)).mono ?_; rintro e w' ⟨rfl, rfl⟩)
      | (go_at_call 68; refine (Base.impl_isMoney_yes _ _ (by omega) (by omega)).mono ?_; rintro e w' ⟨rfl, rfl⟩)
      | (go_at_call 68; refine (Base.impl_isMoney_no _ _ (by omega)).mono ?_; rintro e w' ⟨rfl, rfl⟩)
      | (go_at_call 79; refine (Base.spec_l02Month_yes _ _ (by omega) (by omega)).mono ?_; rintro e w' ⟨rfl, rfl⟩)
      | (go_at_call 79; refine (Base.spec_l02Month_no _ _ (by omega)).mono ?_; rintro e w' ⟨rfl, rfl⟩)
      | (go_at_call 78; refine (Base.impl_isMonth_yes _ _ (by omega) (by omega)).mono ?_; rintro e w' ⟨rfl, rfl⟩)
      | (go_at_call 78; refine (Base.impl_isMonth_no _ _ (by omega)).mono ?_; rintro e w' ⟨rfl, rfl⟩)
      | (go_at_call 90; refine (Base.spec_l04Rate_yes _ _ (by omega) (by omega)).mono ?_; rintro e w' ⟨rfl, rfl⟩)
      | (go_at_call 90; refine (Base.spec_l04Rate_no _ _ (by omega)).mono ?_; rintro e w' ⟨rfl, rfl⟩)
      | (go_at_call 89; refine (Base.impl_isRate_yes _ _ (by omega) (by omega)).mono ?_; rintro e w' ⟨rfl, rfl⟩)
      | (go_at_call 89; refine (Base.impl_isRate_no _ _ (by omega)).mono ?_; rintro e w' ⟨rfl, rfl⟩)
      | (go_at_call 84; refine (Base.impl_isYears_yes _ _ (by omega) (by omega)).mono ?_; rintro e w' ⟨rfl, rfl⟩)
      | (go_at_call 84; refine (Base.impl_isYears_no _ _ (by omega)).mono ?_; rintro e w' ⟨rfl, rfl⟩)
      | (go_at_call 86; refine (Base.spec_l04Amount_yes _ _ (by omega) (by omega)).mono ?_; rintro e w' ⟨rfl, rfl⟩)
      | (go_at_call 86; refine (Base.spec_l04Amount_no _ _ (by omega)).mono ?_; rintro e w' ⟨rfl, rfl⟩)
      | (go_at_call 83; refine (Base.impl_isAmount_yes _ _ (by omega) (by omega)).mono ?_; rintro e w' ⟨rfl, rfl⟩)
      | (go_at_call 83; refine (Base.impl_isAmount_no _ _ (by omega)).mono ?_; rintro e w' ⟨rfl, rfl⟩)
      | (go_at_call 94; refine (Base.spec_l04Loan_yes _ _ _ _ (by omega) (by omega) (by omega) (by omega) (by omega) (by omega)).mono ?_; rintro e w' ⟨rfl, rfl⟩)
      | (go_at_call 94; refine (Base.spec_l04Loan_no _ _ _ _ (by omega)).mono ?_; rintro e w' ⟨rfl, rfl⟩)
      | (go_at_call 92; refine (Base.impl_isLoan_yes _ _ _ _ (by omega) (by omega) (by omega) (by omega) (by omega) (by omega)).mono ?_; rintro e w' ⟨rfl, rfl⟩)
      | (go_at_call 92; refine (Base.impl_isLoan_no _ _ _ _ (by omega)).mono ?_; rintro e w' ⟨rfl, rfl⟩)
      | (go_at_call 97; refine (Interest.l04Discount_any _ _ _ (by omega) (by omega) (by omega) (by omega)).mono ?_; rintro e w' ⟨rfl, rfl⟩)
      | (go_at_call 99; refine (Interest.l04Annuity_any _ _ _ _ (by omega) (by omega) (by omega) (by omega) (by omega) (by omega)).mono ?_; rintro e w' ⟨rfl, rfl⟩)
     )
    go_ret2
    exact ⟨Base.ret_ii V.out.1.symm V.out.2.symm, Below.refl _ _⟩
  · have hb : ¬ (0 ≤ r ∧ r ≤ 200 ∧ 0 ≤ y ∧ y ≤ 120) := by simpa [dOk] using hk
    have V : Hid (dV r y = 0 ∧ dC r y = 2) := by show _ ∧ _; unfold dV dC; rw [if_neg hk, if_neg hk]; exact ⟨rfl, rfl⟩
    clear hk
    rcases (by omega : (r < 0 ∨ 200 < r) ∨ (0 ≤ r ∧ r ≤ 200 ∧ (y < 0 ∨ 120 < y))) with g | ⟨g1, g2, g⟩
    all_goals
      clear hb
      go_enter Try.func53, Try.ntmps53
      go_wp2_with (first
      | (go_at_call 65; refine (Base.l01In_yes _ _ _ _ (by omega) (by omega)).mono ?_; rintro e w' ⟨rfl, rfl⟩)
      | (go_at_call 65; refine (Base.l01In_no _ _ _ _ (by omega)).mono ?_; rintro e w' ⟨rfl, rfl⟩)
      | (go_at_call 63; refine (Base.inRange_yes _ _ _ _ (by omega) (by omega)).mono ?_; rintro e w' ⟨rfl, rfl⟩)
      | (go_at_call 63; refine (Base.inRange_no _ _ _ _ (by omega)).mono ?_; rintro e w' ⟨rfl, rfl⟩)
      | (go_at_call 70; refine (Base.spec_l01Money_yes _ _ (by omega) (by omega)).mono ?_; rintro e w' ⟨rfl, rfl⟩)
      | (go_at_call 70; refine (Base.spec_l01Money_no _ _ (by omega)).mono ?_; rintro e w' ⟨rfl, rfl⟩)
      | (go_at_call 68; refine (Base.impl_isMoney_yes _ _ (by omega) (by omega)).mono ?_; rintro e w' ⟨rfl, rfl⟩)
      | (go_at_call 68; refine (Base.impl_isMoney_no _ _ (by omega)).mono ?_; rintro e w' ⟨rfl, rfl⟩)
      | (go_at_call 79; refine (Base.spec_l02Month_yes _ _ (by omega) (by omega)).mono ?_; rintro e w' ⟨rfl, rfl⟩)
      | (go_at_call 79; refine (Base.spec_l02Month_no _ _ (by omega)).mono ?_; rintro e w' ⟨rfl, rfl⟩)
      | (go_at_call 78; refine (Base.impl_isMonth_yes _ _ (by omega) (by omega)).mono ?_; rintro e w' ⟨rfl, rfl⟩)
      | (go_at_call 78; refine (Base.impl_isMonth_no _ _ (by omega)).mono ?_; rintro e w' ⟨rfl, rfl⟩)
      | (go_at_call 90; refine (Base.spec_l04Rate_yes _ _ (by omega) (by omega)).mono ?_; rintro e w' ⟨rfl, rfl⟩)
      | (go_at_call 90; refine (Base.spec_l04Rate_no _ _ (by omega)).mono ?_; rintro e w' ⟨rfl, rfl⟩)
      | (go_at_call 89; refine (Base.impl_isRate_yes _ _ (by omega) (by omega)).mono ?_; rintro e w' ⟨rfl, rfl⟩)
      | (go_at_call 89; refine (Base.impl_isRate_no _ _ (by omega)).mono ?_; rintro e w' ⟨rfl, rfl⟩)
      | (go_at_call 84; refine (Base.impl_isYears_yes _ _ (by omega) (by omega)).mono ?_; rintro e w' ⟨rfl, rfl⟩)
      | (go_at_call 84; refine (Base.impl_isYears_no _ _ (by omega)).mono ?_; rintro e w' ⟨rfl, rfl⟩)
      | (go_at_call 86; refine (Base.spec_l04Amount_yes _ _ (by omega) (by omega)).mono ?_; rintro e w' ⟨rfl, rfl⟩)
      | (go_at_call 86; refine (Base.spec_l04Amount_no _ _ (by omega)).mono ?_; rintro e w' ⟨rfl, rfl⟩)
      | (go_at_call 83; refine (Base.impl_isAmount_yes _ _ (by omega) (by omega)).mono ?_; rintro e w' ⟨rfl, rfl⟩)
      | (go_at_call 83; refine (Base.impl_isAmount_no _ _ (by omega)).mono ?_; rintro e w' ⟨rfl, rfl⟩)
      | (go_at_call 94; refine (Base.spec_l04Loan_yes _ _ _ _ (by omega) (by omega) (by omega) (by omega) (by omega) (by omega)).mono ?_; rintro e w' ⟨rfl, rfl⟩)
      | (go_at_call 94; refine (Base.spec_l04Loan_no _ _ _ _ (by omega)).mono ?_; rintro e w' ⟨rfl, rfl⟩)
      | (go_at_call 92; refine (Base.impl_isLoan_yes _ _ _ _ (by omega) (by omega) (by omega) (by omega) (by omega) (by omega)).mono ?_; rintro e w' ⟨rfl, rfl⟩)
      | (go_at_call 92; refine (Base.impl_isLoan_no _ _ _ _ (by omega)).mono ?_; rintro e w' ⟨rfl, rfl⟩)
     )
      go_ret2
      exact ⟨Base.ret_ii V.out.1.symm V.out.2.symm, Below.refl _ _⟩
theorem specCertainAnnuity_any (r y : Int) (w : World) : Calls Try.prog 55 #[.int .i64 r, .int .i64 y] w fun e w' => e = .returned (.tuple #[.int .i64 (aV r y), .int .i64 (dC r y)]) ∧ Below w.heap.size w w' := by
  by_cases hk : dOk r y = true
  · have hb : 0 ≤ r ∧ r ≤ 200 ∧ 0 ≤ y ∧ y ≤ 120 := by simpa [dOk] using hk
    obtain ⟨r1, r2, y1, y2⟩ := hb
    have V : Hid (aV r y = Plain.dsum r 0 y.toNat ∧ dC r y = 0) := by show _ ∧ _; unfold aV dC; rw [if_pos hk, if_pos hk]; exact ⟨rfl, rfl⟩
    clear hk
    go_enter Try.func55, Try.ntmps55
    go_wp2_with (first
      | (go_at_call 65; refine (Base.l01In_yes _ _ _ _ (by omega) (by omega)).mono ?_; rintro e w' ⟨rfl, rfl⟩)
      | (go_at_call 65; refine (Base.l01In_no _ _ _ _ (by omega)).mono ?_; rintro e w' ⟨rfl, rfl⟩)
      | (go_at_call 63; refine (Base.inRange_yes _ _ _ _ (by omega) (by omega)).mono ?_; rintro e w' ⟨rfl, rfl⟩)
      | (go_at_call 63; refine (Base.inRange_no _ _ _ _ (by omega)).mono ?_; rintro e w' ⟨rfl, rfl⟩)
      | (go_at_call 70; refine (Base.spec_l01Money_yes _ _ (by omega) (by omega)).mono ?_; rintro e w' ⟨rfl, rfl⟩)
      | (go_at_call 70; refine (Base.spec_l01Money_no _ _ (by omega)).mono ?_; rintro e w' ⟨rfl, rfl⟩)
      | (go_at_call 68; refine (Base.impl_isMoney_yes _ _ (by omega) (by omega)).mono ?_; rintro e w' ⟨rfl, rfl⟩)
      | (go_at_call 68; refine (Base.impl_isMoney_no _ _ (by omega)).mono ?_; rintro e w' ⟨rfl, rfl⟩)
      | (go_at_call 79; refine (Base.spec_l02Month_yes _ _ (by omega) (by omega)).mono ?_; rintro e w' ⟨rfl, rfl⟩)
      | (go_at_call 79; refine (Base.spec_l02Month_no _ _ (by omega)).mono ?_; rintro e w' ⟨rfl, rfl⟩)
      | (go_at_call 78; refine (Base.impl_isMonth_yes _ _ (by omega) (by omega)).mono ?_; rintro e w' ⟨rfl, rfl⟩)
      | (go_at_call 78; refine (Base.impl_isMonth_no _ _ (by omega)).mono ?_; rintro e w' ⟨rfl, rfl⟩)
      | (go_at_call 90; refine (Base.spec_l04Rate_yes _ _ (by omega) (by omega)).mono ?_; rintro e w' ⟨rfl, rfl⟩)
      | (go_at_call 90; refine (Base.spec_l04Rate_no _ _ (by omega)).mono ?_; rintro e w' ⟨rfl, rfl⟩)
      | (go_at_call 89; refine (Base.impl_isRate_yes _ _ (by omega) (by omega)).mono ?_; rintro e w' ⟨rfl, rfl⟩)
      | (go_at_call 89; refine (Base.impl_isRate_no _ _ (by omega)).mono ?_; rintro e w' ⟨rfl, rfl⟩)
      | (go_at_call 84; refine (Base.impl_isYears_yes _ _ (by omega) (by omega)).mono ?_; rintro e w' ⟨rfl, rfl⟩)
      | (go_at_call 84; refine (Base.impl_isYears_no _ _ (by omega)).mono ?_; rintro e w' ⟨rfl, rfl⟩)
      | (go_at_call 86; refine (Base.spec_l04Amount_yes _ _ (by omega) (by omega)).mono ?_; rintro e w' ⟨rfl, rfl⟩)
      | (go_at_call 86; refine (Base.spec_l04Amount_no _ _ (by omega)).mono ?_; rintro e w' ⟨rfl, rfl⟩)
      | (go_at_call 83; refine (Base.impl_isAmount_yes _ _ (by omega) (by omega)).mono ?_; rintro e w' ⟨rfl, rfl⟩)
      | (go_at_call 83; refine (Base.impl_isAmount_no _ _ (by omega)).mono ?_; rintro e w' ⟨rfl, rfl⟩)
      | (go_at_call 94; refine (Base.spec_l04Loan_yes _ _ _ _ (by omega) (by omega) (by omega) (by omega) (by omega) (by omega)).mono ?_; rintro e w' ⟨rfl, rfl⟩)
      | (go_at_call 94; refine (Base.spec_l04Loan_no _ _ _ _ (by omega)).mono ?_; rintro e w' ⟨rfl, rfl⟩)
      | (go_at_call 92; refine (Base.impl_isLoan_yes _ _ _ _ (by omega) (by omega) (by omega) (by omega) (by omega) (by omega)).mono ?_; rintro e w' ⟨rfl, rfl⟩)
      | (go_at_call 92; refine (Base.impl_isLoan_no _ _ _ _ (by omega)).mono ?_; rintro e w' ⟨rfl, rfl⟩)
      | (go_at_call 97; refine (Interest.l04Discount_any _ _ _ (by omega) (by omega) (by omega) (by omega)).mono ?_; rintro e w' ⟨rfl, rfl⟩)
      | (go_at_call 99; refine (Interest.l04Annuity_any _ _ _ _ (by omega) (by omega) (by omega) (by omega) (by omega) (by omega)).mono ?_; rintro e w' ⟨rfl, rfl⟩)
     )
    go_ret2
    exact ⟨Base.ret_ii V.out.1.symm V.out.2.symm, Below.refl _ _⟩
  · have hb : ¬ (0 ≤ r ∧ r ≤ 200 ∧ 0 ≤ y ∧ y ≤ 120) := by simpa [dOk] using hk
    have V : Hid (aV r y = 0 ∧ dC r y = 2) := by show _ ∧ _; unfold aV dC; rw [if_neg hk, if_neg hk]; exact ⟨rfl, rfl⟩
    clear hk
    rcases (by omega : (r < 0 ∨ 200 < r) ∨ (0 ≤ r ∧ r ≤ 200 ∧ (y < 0 ∨ 120 < y))) with g | ⟨g1, g2, g⟩
    all_goals
      clear hb
      go_enter Try.func55, Try.ntmps55
      go_wp2_with (first
      | (go_at_call 65; refine (Base.l01In_yes _ _ _ _ (by omega) (by omega)).mono ?_; rintro e w' ⟨rfl, rfl⟩)
      | (go_at_call 65; refine (Base.l01In_no _ _ _ _ (by omega)).mono ?_; rintro e w' ⟨rfl, rfl⟩)
      | (go_at_call 63; refine (Base.inRange_yes _ _ _ _ (by omega) (by omega)).mono ?_; rintro e w' ⟨rfl, rfl⟩)
      | (go_at_call 63; refine (Base.inRange_no _ _ _ _ (by omega)).mono ?_; rintro e w' ⟨rfl, rfl⟩)
      | (go_at_call 70; refine (Base.spec_l01Money_yes _ _ (by omega) (by omega)).mono ?_; rintro e w' ⟨rfl, rfl⟩)
      | (go_at_call 70; refine (Base.spec_l01Money_no _ _ (by omega)).mono ?_; rintro e w' ⟨rfl, rfl⟩)
      | (go_at_call 68; refine (Base.impl_isMoney_yes _ _ (by omega) (by omega)).mono ?_; rintro e w' ⟨rfl, rfl⟩)
      | (go_at_call 68; refine (Base.impl_isMoney_no _ _ (by omega)).mono ?_; rintro e w' ⟨rfl, rfl⟩)
      | (go_at_call 79; refine (Base.spec_l02Month_yes _ _ (by omega) (by omega)).mono ?_; rintro e w' ⟨rfl, rfl⟩)
      | (go_at_call 79; refine (Base.spec_l02Month_no _ _ (by omega)).mono ?_; rintro e w' ⟨rfl, rfl⟩)
      | (go_at_call 78; refine (Base.impl_isMonth_yes _ _ (by omega) (by omega)).mono ?_; rintro e w' ⟨rfl, rfl⟩)
      | (go_at_call 78; refine (Base.impl_isMonth_no _ _ (by omega)).mono ?_; rintro e w' ⟨rfl, rfl⟩)
      | (go_at_call 90; refine (Base.spec_l04Rate_yes _ _ (by omega) (by omega)).mono ?_; rintro e w' ⟨rfl, rfl⟩)
      | (go_at_call 90; refine (Base.spec_l04Rate_no _ _ (by omega)).mono ?_; rintro e w' ⟨rfl, rfl⟩)
      | (go_at_call 89; refine (Base.impl_isRate_yes _ _ (by omega) (by omega)).mono ?_; rintro e w' ⟨rfl, rfl⟩)
      | (go_at_call 89; refine (Base.impl_isRate_no _ _ (by omega)).mono ?_; rintro e w' ⟨rfl, rfl⟩)
      | (go_at_call 84; refine (Base.impl_isYears_yes _ _ (by omega) (by omega)).mono ?_; rintro e w' ⟨rfl, rfl⟩)
      | (go_at_call 84; refine (Base.impl_isYears_no _ _ (by omega)).mono ?_; rintro e w' ⟨rfl, rfl⟩)
      | (go_at_call 86; refine (Base.spec_l04Amount_yes _ _ (by omega) (by omega)).mono ?_; rintro e w' ⟨rfl, rfl⟩)
      | (go_at_call 86; refine (Base.spec_l04Amount_no _ _ (by omega)).mono ?_; rintro e w' ⟨rfl, rfl⟩)
      | (go_at_call 83; refine (Base.impl_isAmount_yes _ _ (by omega) (by omega)).mono ?_; rintro e w' ⟨rfl, rfl⟩)
      | (go_at_call 83; refine (Base.impl_isAmount_no _ _ (by omega)).mono ?_; rintro e w' ⟨rfl, rfl⟩)
      | (go_at_call 94; refine (Base.spec_l04Loan_yes _ _ _ _ (by omega) (by omega) (by omega) (by omega) (by omega) (by omega)).mono ?_; rintro e w' ⟨rfl, rfl⟩)
      | (go_at_call 94; refine (Base.spec_l04Loan_no _ _ _ _ (by omega)).mono ?_; rintro e w' ⟨rfl, rfl⟩)
      | (go_at_call 92; refine (Base.impl_isLoan_yes _ _ _ _ (by omega) (by omega) (by omega) (by omega) (by omega) (by omega)).mono ?_; rintro e w' ⟨rfl, rfl⟩)
      | (go_at_call 92; refine (Base.impl_isLoan_no _ _ _ _ (by omega)).mono ?_; rintro e w' ⟨rfl, rfl⟩)
     )
      go_ret2
      exact ⟨Base.ret_ii V.out.1.symm V.out.2.symm, Below.refl _ _⟩
theorem specPresentValue_any (v : Value) (xs : List Int) (r : Int) (w : World) (h : Rd w v xs) : Calls Try.prog 58 #[v, .int .i64 r] w fun e w' => e = .returned (.tuple #[.int .i64 (pV xs r), .int .i64 (pC xs r)]) ∧ Below w.heap.size w w' := by
  by_cases hk : pOk xs r = true
  · obtain ⟨⟨h1, h2, h3⟩, hw⟩ := pOk_of hk
    unfold pV pC; rw [if_pos hk, if_pos hk]
    exact specPresentValue_in v xs r w h h1 h2 h3 hw
  · unfold pV pC; rw [if_neg hk, if_neg hk]
    exact specPresentValue_out v xs r w h (pOk_not hk)
theorem implDiscountOf_any (r y : Int) (w : World) : Calls Try.prog 52 #[.int .i64 r, .int .i64 y] w fun e w' => e = .returned (.tuple #[.int .i64 (dV r y), .int .i64 (dC r y)]) ∧ Below w.heap.size w w' := by
  by_cases hk : dOk r y = true
  · have hb : 0 ≤ r ∧ r ≤ 200 ∧ 0 ≤ y ∧ y ≤ 120 := by simpa [dOk] using hk
    obtain ⟨r1, r2, y1, y2⟩ := hb
    have V : Hid (dV r y = Plain.disc r y.toNat ∧ dC r y = 0) := by show _ ∧ _; unfold dV dC; rw [if_pos hk, if_pos hk]; exact ⟨rfl, rfl⟩
    clear hk
    rw [V.out.1, V.out.2]
    exact Discs.implDiscountOf_in r y w r1 r2 y1 y2
  · have hb : ¬ (0 ≤ r ∧ r ≤ 200 ∧ 0 ≤ y ∧ y ≤ 120) := by simpa [dOk] using hk
    have V : Hid (dV r y = 0 ∧ dC r y = 2) := by show _ ∧ _; unfold dV dC; rw [if_neg hk, if_neg hk]; exact ⟨rfl, rfl⟩
    clear hk
    rcases (by omega : (r < 0 ∨ 200 < r) ∨ (0 ≤ r ∧ r ≤ 200 ∧ (y < 0 ∨ 120 < y))) with g | ⟨g1, g2, g⟩
    all_goals
      clear hb
      go_enter Try.func52, Try.ntmps52
      go_wp2_with (first
      | (go_at_call 65; refine (Base.l01In_yes _ _ _ _ (by omega) (by omega)).mono ?_; rintro e w' ⟨rfl, rfl⟩)
      | (go_at_call 65; refine (Base.l01In_no _ _ _ _ (by omega)).mono ?_; rintro e w' ⟨rfl, rfl⟩)
      | (go_at_call 63; refine (Base.inRange_yes _ _ _ _ (by omega) (by omega)).mono ?_; rintro e w' ⟨rfl, rfl⟩)
      | (go_at_call 63; refine (Base.inRange_no _ _ _ _ (by omega)).mono ?_; rintro e w' ⟨rfl, rfl⟩)
      | (go_at_call 70; refine (Base.spec_l01Money_yes _ _ (by omega) (by omega)).mono ?_; rintro e w' ⟨rfl, rfl⟩)
      | (go_at_call 70; refine (Base.spec_l01Money_no _ _ (by omega)).mono ?_; rintro e w' ⟨rfl, rfl⟩)
      | (go_at_call 68; refine (Base.impl_isMoney_yes _ _ (by omega) (by omega)).mono ?_; rintro e w' ⟨rfl, rfl⟩)
      | (go_at_call 68; refine (Base.impl_isMoney_no _ _ (by omega)).mono ?_; rintro e w' ⟨rfl, rfl⟩)
      | (go_at_call 79; refine (Base.spec_l02Month_yes _ _ (by omega) (by omega)).mono ?_; rintro e w' ⟨rfl, rfl⟩)
      | (go_at_call 79; refine (Base.spec_l02Month_no _ _ (by omega)).mono ?_; rintro e w' ⟨rfl, rfl⟩)
      | (go_at_call 78; refine (Base.impl_isMonth_yes _ _ (by omega) (by omega)).mono ?_; rintro e w' ⟨rfl, rfl⟩)
      | (go_at_call 78; refine (Base.impl_isMonth_no _ _ (by omega)).mono ?_; rintro e w' ⟨rfl, rfl⟩)
      | (go_at_call 90; refine (Base.spec_l04Rate_yes _ _ (by omega) (by omega)).mono ?_; rintro e w' ⟨rfl, rfl⟩)
      | (go_at_call 90; refine (Base.spec_l04Rate_no _ _ (by omega)).mono ?_; rintro e w' ⟨rfl, rfl⟩)
      | (go_at_call 89; refine (Base.impl_isRate_yes _ _ (by omega) (by omega)).mono ?_; rintro e w' ⟨rfl, rfl⟩)
      | (go_at_call 89; refine (Base.impl_isRate_no _ _ (by omega)).mono ?_; rintro e w' ⟨rfl, rfl⟩)
      | (go_at_call 84; refine (Base.impl_isYears_yes _ _ (by omega) (by omega)).mono ?_; rintro e w' ⟨rfl, rfl⟩)
      | (go_at_call 84; refine (Base.impl_isYears_no _ _ (by omega)).mono ?_; rintro e w' ⟨rfl, rfl⟩)
      | (go_at_call 86; refine (Base.spec_l04Amount_yes _ _ (by omega) (by omega)).mono ?_; rintro e w' ⟨rfl, rfl⟩)
      | (go_at_call 86; refine (Base.spec_l04Amount_no _ _ (by omega)).mono ?_; rintro e w' ⟨rfl, rfl⟩)
      | (go_at_call 83; refine (Base.impl_isAmount_yes _ _ (by omega) (by omega)).mono ?_; rintro e w' ⟨rfl, rfl⟩)
      | (go_at_call 83; refine (Base.impl_isAmount_no _ _ (by omega)).mono ?_; rintro e w' ⟨rfl, rfl⟩)
      | (go_at_call 94; refine (Base.spec_l04Loan_yes _ _ _ _ (by omega) (by omega) (by omega) (by omega) (by omega) (by omega)).mono ?_; rintro e w' ⟨rfl, rfl⟩)
      | (go_at_call 94; refine (Base.spec_l04Loan_no _ _ _ _ (by omega)).mono ?_; rintro e w' ⟨rfl, rfl⟩)
      | (go_at_call 92; refine (Base.impl_isLoan_yes _ _ _ _ (by omega) (by omega) (by omega) (by omega) (by omega) (by omega)).mono ?_; rintro e w' ⟨rfl, rfl⟩)
      | (go_at_call 92; refine (Base.impl_isLoan_no _ _ _ _ (by omega)).mono ?_; rintro e w' ⟨rfl, rfl⟩)
     )
      go_ret2
      exact ⟨Base.ret_ii V.out.1.symm V.out.2.symm, Below.refl _ _⟩
theorem implCertainAnnuity_any (r y : Int) (w : World) : Calls Try.prog 54 #[.int .i64 r, .int .i64 y] w fun e w' => e = .returned (.tuple #[.int .i64 (aV r y), .int .i64 (dC r y)]) ∧ Below w.heap.size w w' := by
  by_cases hk : dOk r y = true
  · have hb : 0 ≤ r ∧ r ≤ 200 ∧ 0 ≤ y ∧ y ≤ 120 := by simpa [dOk] using hk
    obtain ⟨r1, r2, y1, y2⟩ := hb
    have V : Hid (aV r y = Plain.dsum r 0 y.toNat ∧ dC r y = 0) := by show _ ∧ _; unfold aV dC; rw [if_pos hk, if_pos hk]; exact ⟨rfl, rfl⟩
    clear hk
    rw [V.out.1, V.out.2]
    exact Discs.implCertainAnnuity_in r y w r1 r2 y1 y2
  · have hb : ¬ (0 ≤ r ∧ r ≤ 200 ∧ 0 ≤ y ∧ y ≤ 120) := by simpa [dOk] using hk
    have V : Hid (aV r y = 0 ∧ dC r y = 2) := by show _ ∧ _; unfold aV dC; rw [if_neg hk, if_neg hk]; exact ⟨rfl, rfl⟩
    clear hk
    rcases (by omega : (r < 0 ∨ 200 < r) ∨ (0 ≤ r ∧ r ≤ 200 ∧ (y < 0 ∨ 120 < y))) with g | ⟨g1, g2, g⟩
    all_goals
      clear hb
      go_enter Try.func54, Try.ntmps54
      go_wp2_with (first
      | (go_at_call 65; refine (Base.l01In_yes _ _ _ _ (by omega) (by omega)).mono ?_; rintro e w' ⟨rfl, rfl⟩)
      | (go_at_call 65; refine (Base.l01In_no _ _ _ _ (by omega)).mono ?_; rintro e w' ⟨rfl, rfl⟩)
      | (go_at_call 63; refine (Base.inRange_yes _ _ _ _ (by omega) (by omega)).mono ?_; rintro e w' ⟨rfl, rfl⟩)
      | (go_at_call 63; refine (Base.inRange_no _ _ _ _ (by omega)).mono ?_; rintro e w' ⟨rfl, rfl⟩)
      | (go_at_call 70; refine (Base.spec_l01Money_yes _ _ (by omega) (by omega)).mono ?_; rintro e w' ⟨rfl, rfl⟩)
      | (go_at_call 70; refine (Base.spec_l01Money_no _ _ (by omega)).mono ?_; rintro e w' ⟨rfl, rfl⟩)
      | (go_at_call 68; refine (Base.impl_isMoney_yes _ _ (by omega) (by omega)).mono ?_; rintro e w' ⟨rfl, rfl⟩)
      | (go_at_call 68; refine (Base.impl_isMoney_no _ _ (by omega)).mono ?_; rintro e w' ⟨rfl, rfl⟩)
      | (go_at_call 79; refine (Base.spec_l02Month_yes _ _ (by omega) (by omega)).mono ?_; rintro e w' ⟨rfl, rfl⟩)
      | (go_at_call 79; refine (Base.spec_l02Month_no _ _ (by omega)).mono ?_; rintro e w' ⟨rfl, rfl⟩)
      | (go_at_call 78; refine (Base.impl_isMonth_yes _ _ (by omega) (by omega)).mono ?_; rintro e w' ⟨rfl, rfl⟩)
      | (go_at_call 78; refine (Base.impl_isMonth_no _ _ (by omega)).mono ?_; rintro e w' ⟨rfl, rfl⟩)
      | (go_at_call 90; refine (Base.spec_l04Rate_yes _ _ (by omega) (by omega)).mono ?_; rintro e w' ⟨rfl, rfl⟩)
      | (go_at_call 90; refine (Base.spec_l04Rate_no _ _ (by omega)).mono ?_; rintro e w' ⟨rfl, rfl⟩)
      | (go_at_call 89; refine (Base.impl_isRate_yes _ _ (by omega) (by omega)).mono ?_; rintro e w' ⟨rfl, rfl⟩)
      | (go_at_call 89; refine (Base.impl_isRate_no _ _ (by omega)).mono ?_; rintro e w' ⟨rfl, rfl⟩)
      | (go_at_call 84; refine (Base.impl_isYears_yes _ _ (by omega) (by omega)).mono ?_; rintro e w' ⟨rfl, rfl⟩)
      | (go_at_call 84; refine (Base.impl_isYears_no _ _ (by omega)).mono ?_; rintro e w' ⟨rfl, rfl⟩)
      | (go_at_call 86; refine (Base.spec_l04Amount_yes _ _ (by omega) (by omega)).mono ?_; rintro e w' ⟨rfl, rfl⟩)
      | (go_at_call 86; refine (Base.spec_l04Amount_no _ _ (by omega)).mono ?_; rintro e w' ⟨rfl, rfl⟩)
      | (go_at_call 83; refine (Base.impl_isAmount_yes _ _ (by omega) (by omega)).mono ?_; rintro e w' ⟨rfl, rfl⟩)
      | (go_at_call 83; refine (Base.impl_isAmount_no _ _ (by omega)).mono ?_; rintro e w' ⟨rfl, rfl⟩)
      | (go_at_call 94; refine (Base.spec_l04Loan_yes _ _ _ _ (by omega) (by omega) (by omega) (by omega) (by omega) (by omega)).mono ?_; rintro e w' ⟨rfl, rfl⟩)
      | (go_at_call 94; refine (Base.spec_l04Loan_no _ _ _ _ (by omega)).mono ?_; rintro e w' ⟨rfl, rfl⟩)
      | (go_at_call 92; refine (Base.impl_isLoan_yes _ _ _ _ (by omega) (by omega) (by omega) (by omega) (by omega) (by omega)).mono ?_; rintro e w' ⟨rfl, rfl⟩)
      | (go_at_call 92; refine (Base.impl_isLoan_no _ _ _ _ (by omega)).mono ?_; rintro e w' ⟨rfl, rfl⟩)
     )
      go_ret2
      exact ⟨Base.ret_ii V.out.1.symm V.out.2.symm, Below.refl _ _⟩
theorem implPresentValue_any (v : Value) (xs : List Int) (r : Int) (w : World) (h : Rd w v xs) : Calls Try.prog 57 #[v, .int .i64 r] w fun e w' => e = .returned (.tuple #[.int .i64 (pV xs r), .int .i64 (pC xs r)]) ∧ Below w.heap.size w w' := by
  by_cases hk : pOk xs r = true
  · obtain ⟨⟨h1, h2, h3⟩, hw⟩ := pOk_of hk
    unfold pV pC; rw [if_pos hk, if_pos hk]
    exact implPresentValue_in v xs r w h h1 h2 h3 hw
  · unfold pV pC; rw [if_neg hk, if_neg hk]
    exact implPresentValue_out v xs r w h (pOk_not hk)
end Go.Proofs.Ytdafgpikgpobbaa.DiscLaw
