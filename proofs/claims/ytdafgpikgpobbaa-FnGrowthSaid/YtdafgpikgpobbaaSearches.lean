/-
  Contracts of DoublingYears and RateBetween of both packages: the first number with a property.
  Conditions: each contract serves arguments in their ranges.
-/
import Derived.Test.YtdafgpikgpobbaaInterest
namespace Go.Proofs.Ytdafgpikgpobbaa.Searches
open Go.RowKit
set_option linter.unusedVariables false

/-- An amount has doubled after k years; a rate is enough. -/
def dbl (r : Int) (k : Nat) : Bool := decide (2000000 ≤ Plain.gc 1000000 r k)
def rateB (a l : Int) (y : Nat) (r : Nat) : Bool := decide (l ≤ Plain.gc a r y)

theorem nat_of (k : Nat) : ((k : Int)).toNat = k := Int.toNat_natCast k

set_option maxHeartbeats 400000 in
theorem specDoublingYears_in (r : Int) (w : World) (h1 : 0 ≤ r) (h2 : r ≤ 200) :
    Calls Try.prog 44 #[.int .i64 r] w fun e w' => e = .returned (.tuple #[.int .i64 (Plain.numOf (Plain.firstYes (dbl r) 121 0)), .int .i64 (Plain.codeOf (Plain.firstYes (dbl r) 121 0))]) ∧ w = w' := by
  go_enter Try.func44, Try.ntmps44
  go_wp2_with (first
      | (go_at_call 65; refine (Base.l01In_yes _ _ _ _ (by omega) (by omega)).mono ?_; rintro e w' ⟨rfl, rfl⟩)
      | (go_at_call 65; refine (Base.l01In_no _ _ _ _ (by omega)).mono ?_; rintro e w' ⟨rfl, rfl⟩)
      | (go_at_call 63; refine (Base.inRange_yes _ _ _ _ (by omega) (by omega)).mono ?_; rintro e w' ⟨rfl, rfl⟩)
      | (go_at_call 63; refine (Base.inRange_no _ _ _ _ (by omega)).mono ?_; rintro e w' ⟨rfl, rfl⟩)
      | (go_at_call 70; refine (Base.spec_l01Money_yes _ _ (by omega) (by omega)).mono ?_; rintro e w' ⟨rfl, rfl⟩)
      | (go_at_call 70; refine (Base.spec_l01Money_no _ _ (by omega)).mono ?_; rintro e w' ⟨rfl, rfl⟩)
      | (go_at_call 68; refine (Base.impl_isMoney_yes _ _ (by omega) (by omega)).mono ?_; rintro e w' ⟨rfl, rfl⟩)
      | (go_at_call 68; refine (Base.impl_isMoney_no _ _ (by omega)).mono ?_; rintro e w' ⟨rfl, rfl⟩)
      | (go_at_call 79; refine (Base.spec_l02Month_yes _ _ (by omega) (by omega)).mono ?_; rintro e w' ⟨rfl, rfl⟩)
      | (go_at_call 79; refine (Base.spec_l02Month_no _ _ (by omega)).mono ?_; rintro e w' ⟨rfl, rfl⟩)
      | (go_at_call 78; refine (Base.impl_isMonth_yes _ _ (by omega) (by omega)).mono ?_; rintro e w' ⟨rfl, rfl⟩)
      | (go_at_call 78; refine (Base.impl_isMonth_no _ _ (by omega)).mono ?_; rintro e w' ⟨rfl, rfl⟩)
      | (go_at_call 90; refine (Base.spec_l04Rate_yes _ _ (by omega) (by omega)).mono ?_; rintro e w' ⟨rfl, rfl⟩)
      | (go_at_call 90; refine (Base.spec_l04Rate_no _ _ (by omega)).mono ?_; rintro e w' ⟨rfl, rfl⟩)
      | (go_at_call 89; refine (Base.impl_isRate_yes _ _ (by omega) (by omega)).mono ?_; rintro e w' ⟨rfl, rfl⟩)
      | (go_at_call 89; refine (Base.impl_isRate_no _ _ (by omega)).mono ?_; rintro e w' ⟨rfl, rfl⟩)
      | (go_at_call 84; refine (Base.impl_isYears_yes _ _ (by omega) (by omega)).mono ?_; rintro e w' ⟨rfl, rfl⟩)
      | (go_at_call 84; refine (Base.impl_isYears_no _ _ (by omega)).mono ?_; rintro e w' ⟨rfl, rfl⟩)
      | (go_at_call 86; refine (Base.spec_l04Amount_yes _ _ (by omega) (by omega)).mono ?_; rintro e w' ⟨rfl, rfl⟩)
      | (go_at_call 86; refine (Base.spec_l04Amount_no _ _ (by omega)).mono ?_; rintro e w' ⟨rfl, rfl⟩)
      | (go_at_call 83; refine (Base.impl_isAmount_yes _ _ (by omega) (by omega)).mono ?_; rintro e w' ⟨rfl, rfl⟩)
      | (go_at_call 83; refine (Base.impl_isAmount_no _ _ (by omega)).mono ?_; rintro e w' ⟨rfl, rfl⟩)
      | (go_at_call 94; refine (Base.spec_l04Loan_yes _ _ _ _ (by omega) (by omega) (by omega) (by omega) (by omega) (by omega)).mono ?_; rintro e w' ⟨rfl, rfl⟩)
      | (go_at_call 94; refine (Base.spec_l04Loan_no _ _ _ _ (by omega)).mono ?_; rintro e w' ⟨rfl, rfl⟩)
      | (go_at_call 92; refine (Base.impl_isLoan_yes _ _ _ _ (by omega) (by omega) (by omega) (by omega) (by omega) (by omega)).mono ?_; rintro e w' ⟨rfl, rfl⟩)
      | (go_at_call 92; refine (Base.impl_isLoan_no _ _ _ _ (by omega)).mono ?_; rintro e w' ⟨rfl, rfl⟩)
      | go_in)
  go_loop [4] (fun i => ∃ k : Nat, k ≤ 121 ∧ i = .int .i64 k ∧ Hid (Plain.firstYes (dbl r) (121 - k) k = Plain.firstYes (dbl r) 121 0)) (fun i => 121 - (intOf i).toNat)
  case atStart => exact ⟨0, by omega, rfl, rfl⟩
  case round =>
    obtain ⟨k, hk, rfl, H⟩ := hrel
    by_cases hlt : k ≤ 120
    · have NK := Lib.hid (nat_of k)
      obtain ⟨f, hf⟩ : ∃ f, 121 - k = f + 1 := ⟨120 - k, by omega⟩
      have HF := Lib.hid hf
      clear hf
      obtain ⟨g1, g2⟩ := Plain.gc_bd 1000000 r (by omega) (by omega) h1 h2 k
      by_cases hd : 2000000 ≤ Plain.gc 1000000 r k
      · have HY : Hid (Plain.firstYes (dbl r) 121 0 = some k) := by show _ = _; rw [← H.out, HF.out, Plain.firstYes_hit _ _ _ (by simp [dbl, hd])]
        by_cases hg : Plain.gc 1000000 r k ≤ 1000000000000
        · have hg' : Plain.gc 1000000 r (k : Int).toNat ≤ 1000000000000 := by rw [nat_of]; exact hg
          go_wp2_with (first | (go_at_call 87; refine (Interest.l04Grow_any _ _ _ _ (by omega) (by omega) (by omega) (by omega) (by omega) (by omega)).mono ?_; rintro e w' ⟨rfl, rfl⟩; rw [NK.out]) | (go_at_call 85; refine (Interest.grown_yes _ _ _ _ (by omega) (by omega) (by omega) (by omega) (by omega) (by omega) (by assumption)).mono ?_; rintro e w' ⟨rfl, rfl⟩; rw [NK.out]))
          go_ret2
          exact ⟨Base.ret_ii (by rw [HY.out]; rfl) (by rw [HY.out]; rfl), rfl⟩
        · have hg' : 1000000000000 < Plain.gc 1000000 r (k : Int).toNat := by rw [nat_of]; omega
          go_wp2_with (first | (go_at_call 87; refine (Interest.l04Grow_any _ _ _ _ (by omega) (by omega) (by omega) (by omega) (by omega) (by omega)).mono ?_; rintro e w' ⟨rfl, rfl⟩; rw [NK.out]) | (go_at_call 85; refine (Interest.grown_no _ _ _ _ (by omega) (by omega) (by omega) (by omega) (by omega) (by omega) (by assumption)).mono ?_; rintro e w' ⟨rfl, rfl⟩))
          go_ret2
          exact ⟨Base.ret_ii (by rw [HY.out]; rfl) (by rw [HY.out]; rfl), rfl⟩
      · have HN : Hid (Plain.firstYes (dbl r) (121 - (k + 1)) (k + 1) = Plain.firstYes (dbl r) 121 0) := by
          show _ = _
          rw [← H.out, HF.out, Plain.firstYes_miss _ _ _ (by simp [dbl]; omega), show 121 - (k + 1) = f from by have := HF.out; omega]
        have hg' : Plain.gc 1000000 r (k : Int).toNat ≤ 1000000000000 := by rw [nat_of]; omega
        go_wp2_with (first | (go_at_call 87; refine (Interest.l04Grow_any _ _ _ _ (by omega) (by omega) (by omega) (by omega) (by omega) (by omega)).mono ?_; rintro e w' ⟨rfl, rfl⟩; rw [NK.out]) | (go_at_call 85; refine (Interest.grown_yes _ _ _ _ (by omega) (by omega) (by omega) (by omega) (by omega) (by omega) (by assumption)).mono ?_; rintro e w' ⟨rfl, rfl⟩; rw [NK.out]))
        go_round
        case rel => exact ⟨k + 1, by omega, by go_num, HN.out⟩
        case measure => simp [intOf]; omega
    · obtain rfl : k = 121 := by omega
      go_wp2
      go_ret2
      exact ⟨Base.ret_ii (by rw [← H.out]; rfl) (by rw [← H.out]; rfl), rfl⟩

set_option maxHeartbeats 400000 in
theorem implDoublingYears_in (r : Int) (w : World) (h1 : 0 ≤ r) (h2 : r ≤ 200) :
    Calls Try.prog 43 #[.int .i64 r] w fun e w' => e = .returned (.tuple #[.int .i64 (Plain.numOf (Plain.firstYes (dbl r) 121 0)), .int .i64 (Plain.codeOf (Plain.firstYes (dbl r) 121 0))]) ∧ w = w' := by
  go_enter Try.func43, Try.ntmps43
  go_wp2_with (first
      | (go_at_call 65; refine (Base.l01In_yes _ _ _ _ (by omega) (by omega)).mono ?_; rintro e w' ⟨rfl, rfl⟩)
      | (go_at_call 65; refine (Base.l01In_no _ _ _ _ (by omega)).mono ?_; rintro e w' ⟨rfl, rfl⟩)
      | (go_at_call 63; refine (Base.inRange_yes _ _ _ _ (by omega) (by omega)).mono ?_; rintro e w' ⟨rfl, rfl⟩)
      | (go_at_call 63; refine (Base.inRange_no _ _ _ _ (by omega)).mono ?_; rintro e w' ⟨rfl, rfl⟩)
      | (go_at_call 70; refine (Base.spec_l01Money_yes _ _ (by omega) (by omega)).mono ?_; rintro e w' ⟨rfl, rfl⟩)
      | (go_at_call 70; refine (Base.spec_l01Money_no _ _ (by omega)).mono ?_; rintro e w' ⟨rfl, rfl⟩)
      | (go_at_call 68; refine (Base.impl_isMoney_yes _ _ (by omega) (by omega)).mono ?_; rintro e w' ⟨rfl, rfl⟩)
      | (go_at_call 68; refine (Base.impl_isMoney_no _ _ (by omega)).mono ?_; rintro e w' ⟨rfl, rfl⟩)
      | (go_at_call 79; refine (Base.spec_l02Month_yes _ _ (by omega) (by omega)).mono ?_; rintro e w' ⟨rfl, rfl⟩)
      | (go_at_call 79; refine (Base.spec_l02Month_no _ _ (by omega)).mono ?_; rintro e w' ⟨rfl, rfl⟩)
      | (go_at_call 78; refine (Base.impl_isMonth_yes _ _ (by omega) (by omega)).mono ?_; rintro e w' ⟨rfl, rfl⟩)
      | (go_at_call 78; refine (Base.impl_isMonth_no _ _ (by omega)).mono ?_; rintro e w' ⟨rfl, rfl⟩)
      | (go_at_call 90; refine (Base.spec_l04Rate_yes _ _ (by omega) (by omega)).mono ?_; rintro e w' ⟨rfl, rfl⟩)
      | (go_at_call 90; refine (Base.spec_l04Rate_no _ _ (by omega)).mono ?_; rintro e w' ⟨rfl, rfl⟩)
      | (go_at_call 89; refine (Base.impl_isRate_yes _ _ (by omega) (by omega)).mono ?_; rintro e w' ⟨rfl, rfl⟩)
      | (go_at_call 89; refine (Base.impl_isRate_no _ _ (by omega)).mono ?_; rintro e w' ⟨rfl, rfl⟩)
      | (go_at_call 84; refine (Base.impl_isYears_yes _ _ (by omega) (by omega)).mono ?_; rintro e w' ⟨rfl, rfl⟩)
      | (go_at_call 84; refine (Base.impl_isYears_no _ _ (by omega)).mono ?_; rintro e w' ⟨rfl, rfl⟩)
      | (go_at_call 86; refine (Base.spec_l04Amount_yes _ _ (by omega) (by omega)).mono ?_; rintro e w' ⟨rfl, rfl⟩)
      | (go_at_call 86; refine (Base.spec_l04Amount_no _ _ (by omega)).mono ?_; rintro e w' ⟨rfl, rfl⟩)
      | (go_at_call 83; refine (Base.impl_isAmount_yes _ _ (by omega) (by omega)).mono ?_; rintro e w' ⟨rfl, rfl⟩)
      | (go_at_call 83; refine (Base.impl_isAmount_no _ _ (by omega)).mono ?_; rintro e w' ⟨rfl, rfl⟩)
      | (go_at_call 94; refine (Base.spec_l04Loan_yes _ _ _ _ (by omega) (by omega) (by omega) (by omega) (by omega) (by omega)).mono ?_; rintro e w' ⟨rfl, rfl⟩)
      | (go_at_call 94; refine (Base.spec_l04Loan_no _ _ _ _ (by omega)).mono ?_; rintro e w' ⟨rfl, rfl⟩)
      | (go_at_call 92; refine (Base.impl_isLoan_yes _ _ _ _ (by omega) (by omega) (by omega) (by omega) (by omega) (by omega)).mono ?_; rintro e w' ⟨rfl, rfl⟩)
      | (go_at_call 92; refine (Base.impl_isLoan_no _ _ _ _ (by omega)).mono ?_; rintro e w' ⟨rfl, rfl⟩)
      | go_in)
  go_loop [4] (fun i => ∃ k : Nat, k ≤ 121 ∧ i = .int .i64 k ∧ Hid (Plain.firstYes (dbl r) (121 - k) k = Plain.firstYes (dbl r) 121 0)) (fun i => 121 - (intOf i).toNat)
  case atStart => exact ⟨0, by omega, rfl, rfl⟩
  case round =>
    obtain ⟨k, hk, rfl, H⟩ := hrel
    by_cases hlt : k ≤ 120
    · have NK := Lib.hid (nat_of k)
      obtain ⟨f, hf⟩ : ∃ f, 121 - k = f + 1 := ⟨120 - k, by omega⟩
      have HF := Lib.hid hf
      clear hf
      obtain ⟨g1, g2⟩ := Plain.gc_bd 1000000 r (by omega) (by omega) h1 h2 k
      by_cases hd : 2000000 ≤ Plain.gc 1000000 r k
      · have HY : Hid (Plain.firstYes (dbl r) 121 0 = some k) := by show _ = _; rw [← H.out, HF.out, Plain.firstYes_hit _ _ _ (by simp [dbl, hd])]
        by_cases hg : Plain.gc 1000000 r k ≤ 1000000000000
        · have hg' : Plain.gc 1000000 r (k : Int).toNat ≤ 1000000000000 := by rw [nat_of]; exact hg
          go_wp2_with (first | (go_at_call 87; refine (Interest.l04Grow_any _ _ _ _ (by omega) (by omega) (by omega) (by omega) (by omega) (by omega)).mono ?_; rintro e w' ⟨rfl, rfl⟩; rw [NK.out]) | (go_at_call 85; refine (Interest.grown_yes _ _ _ _ (by omega) (by omega) (by omega) (by omega) (by omega) (by omega) (by assumption)).mono ?_; rintro e w' ⟨rfl, rfl⟩; rw [NK.out]))
          go_ret2
          exact ⟨Base.ret_ii (by rw [HY.out]; rfl) (by rw [HY.out]; rfl), rfl⟩
        · have hg' : 1000000000000 < Plain.gc 1000000 r (k : Int).toNat := by rw [nat_of]; omega
          go_wp2_with (first | (go_at_call 87; refine (Interest.l04Grow_any _ _ _ _ (by omega) (by omega) (by omega) (by omega) (by omega) (by omega)).mono ?_; rintro e w' ⟨rfl, rfl⟩; rw [NK.out]) | (go_at_call 85; refine (Interest.grown_no _ _ _ _ (by omega) (by omega) (by omega) (by omega) (by omega) (by omega) (by assumption)).mono ?_; rintro e w' ⟨rfl, rfl⟩))
          go_ret2
          exact ⟨Base.ret_ii (by rw [HY.out]; rfl) (by rw [HY.out]; rfl), rfl⟩
      · have HN : Hid (Plain.firstYes (dbl r) (121 - (k + 1)) (k + 1) = Plain.firstYes (dbl r) 121 0) := by
          show _ = _
          rw [← H.out, HF.out, Plain.firstYes_miss _ _ _ (by simp [dbl]; omega), show 121 - (k + 1) = f from by have := HF.out; omega]
        have hg' : Plain.gc 1000000 r (k : Int).toNat ≤ 1000000000000 := by rw [nat_of]; omega
        go_wp2_with (first | (go_at_call 87; refine (Interest.l04Grow_any _ _ _ _ (by omega) (by omega) (by omega) (by omega) (by omega) (by omega)).mono ?_; rintro e w' ⟨rfl, rfl⟩; rw [NK.out]) | (go_at_call 85; refine (Interest.grown_yes _ _ _ _ (by omega) (by omega) (by omega) (by omega) (by omega) (by omega) (by assumption)).mono ?_; rintro e w' ⟨rfl, rfl⟩; rw [NK.out]))
        go_round
        case rel => exact ⟨k + 1, by omega, by go_num, HN.out⟩
        case measure => simp [intOf]; omega
    · obtain rfl : k = 121 := by omega
      go_wp2
      go_ret2
      exact ⟨Base.ret_ii (by rw [← H.out]; rfl) (by rw [← H.out]; rfl), rfl⟩

set_option maxHeartbeats 400000 in
theorem specRateBetween_in (a l y : Int) (w : World) (h1 : 0 ≤ a) (h2 : a ≤ 1000000000) (h3 : 0 ≤ l) (h4 : l ≤ 1000000000) (h5 : 0 ≤ y) (h6 : y ≤ 120) :
    Calls Try.prog 38 #[.int .i64 a, .int .i64 l, .int .i64 y] w fun e w' => e = .returned (.tuple #[.int .i64 (Plain.numOf (Plain.firstYes (rateB a l y.toNat) 201 0)), .int .i64 (Plain.codeOf (Plain.firstYes (rateB a l y.toNat) 201 0))]) ∧ w = w' := by
  go_enter Try.func38, Try.ntmps38
  go_wp2_with (first
      | (go_at_call 65; refine (Base.l01In_yes _ _ _ _ (by omega) (by omega)).mono ?_; rintro e w' ⟨rfl, rfl⟩)
      | (go_at_call 65; refine (Base.l01In_no _ _ _ _ (by omega)).mono ?_; rintro e w' ⟨rfl, rfl⟩)
      | (go_at_call 63; refine (Base.inRange_yes _ _ _ _ (by omega) (by omega)).mono ?_; rintro e w' ⟨rfl, rfl⟩)
      | (go_at_call 63; refine (Base.inRange_no _ _ _ _ (by omega)).mono ?_; rintro e w' ⟨rfl, rfl⟩)
      | (go_at_call 70; refine (Base.spec_l01Money_yes _ _ (by omega) (by omega)).mono ?_; rintro e w' ⟨rfl, rfl⟩)
      | (go_at_call 70; refine (Base.spec_l01Money_no _ _ (by omega)).mono ?_; rintro e w' ⟨rfl, rfl⟩)
      | (go_at_call 68; refine (Base.impl_isMoney_yes _ _ (by omega) (by omega)).mono ?_; rintro e w' ⟨rfl, rfl⟩)
      | (go_at_call 68; refine (Base.impl_isMoney_no _ _ (by omega)).mono ?_; rintro e w' ⟨rfl, rfl⟩)
      | (go_at_call 79; refine (Base.spec_l02Month_yes _ _ (by omega) (by omega)).mono ?_; rintro e w' ⟨rfl, rfl⟩)
      | (go_at_call 79; refine (Base.spec_l02Month_no _ _ (by omega)).mono ?_; rintro e w' ⟨rfl, rfl⟩)
      | (go_at_call 78; refine (Base.impl_isMonth_yes _ _ (by omega) (by omega)).mono ?_; rintro e w' ⟨rfl, rfl⟩)
      | (go_at_call 78; refine (Base.impl_isMonth_no _ _ (by omega)).mono ?_; rintro e w' ⟨rfl, rfl⟩)
      | (go_at_call 90; refine (Base.spec_l04Rate_yes _ _ (by omega) (by omega)).mono ?_; rintro e w' ⟨rfl, rfl⟩)
      | (go_at_call 90; refine (Base.spec_l04Rate_no _ _ (by omega)).mono ?_; rintro e w' ⟨rfl, rfl⟩)
      | (go_at_call 89; refine (Base.impl_isRate_yes _ _ (by omega) (by omega)).mono ?_; rintro e w' ⟨rfl, rfl⟩)
      | (go_at_call 89; refine (Base.impl_isRate_no _ _ (by omega)).mono ?_; rintro e w' ⟨rfl, rfl⟩)
      | (go_at_call 84; refine (Base.impl_isYears_yes _ _ (by omega) (by omega)).mono ?_; rintro e w' ⟨rfl, rfl⟩)
      | (go_at_call 84; refine (Base.impl_isYears_no _ _ (by omega)).mono ?_; rintro e w' ⟨rfl, rfl⟩)
      | (go_at_call 86; refine (Base.spec_l04Amount_yes _ _ (by omega) (by omega)).mono ?_; rintro e w' ⟨rfl, rfl⟩)
      | (go_at_call 86; refine (Base.spec_l04Amount_no _ _ (by omega)).mono ?_; rintro e w' ⟨rfl, rfl⟩)
      | (go_at_call 83; refine (Base.impl_isAmount_yes _ _ (by omega) (by omega)).mono ?_; rintro e w' ⟨rfl, rfl⟩)
      | (go_at_call 83; refine (Base.impl_isAmount_no _ _ (by omega)).mono ?_; rintro e w' ⟨rfl, rfl⟩)
      | (go_at_call 94; refine (Base.spec_l04Loan_yes _ _ _ _ (by omega) (by omega) (by omega) (by omega) (by omega) (by omega)).mono ?_; rintro e w' ⟨rfl, rfl⟩)
      | (go_at_call 94; refine (Base.spec_l04Loan_no _ _ _ _ (by omega)).mono ?_; rintro e w' ⟨rfl, rfl⟩)
      | (go_at_call 92; refine (Base.impl_isLoan_yes _ _ _ _ (by omega) (by omega) (by omega) (by omega) (by omega) (by omega)).mono ?_; rintro e w' ⟨rfl, rfl⟩)
      | (go_at_call 92; refine (Base.impl_isLoan_no _ _ _ _ (by omega)).mono ?_; rintro e w' ⟨rfl, rfl⟩)
      | go_in)
  go_loop [8] (fun i => ∃ k : Nat, k ≤ 201 ∧ i = .int .i64 k ∧ Hid (Plain.firstYes (rateB a l y.toNat) (201 - k) k = Plain.firstYes (rateB a l y.toNat) 201 0)) (fun i => 201 - (intOf i).toNat)
  case atStart => exact ⟨0, by omega, rfl, rfl⟩
  case round =>
    obtain ⟨k, hk, rfl, H⟩ := hrel
    by_cases hlt : k ≤ 200
    · obtain ⟨f, hf⟩ : ∃ f, 201 - k = f + 1 := ⟨200 - k, by omega⟩
      have HF := Lib.hid hf
      clear hf
      obtain ⟨g1, g2⟩ := Plain.gc_bd a k h1 (by omega) (by omega) (by omega) y.toNat
      by_cases hd : l ≤ Plain.gc a k y.toNat
      · have HY : Hid (Plain.firstYes (rateB a l y.toNat) 201 0 = some k) := by show _ = _; rw [← H.out, HF.out, Plain.firstYes_hit _ _ _ (by simp [rateB, hd])]
        by_cases hg : Plain.gc a k y.toNat ≤ 1000000000000
        · go_wp2_with (first | (go_at_call 87; refine (Interest.l04Grow_any _ _ _ _ (by omega) (by omega) (by omega) (by omega) (by omega) (by omega)).mono ?_; rintro e w' ⟨rfl, rfl⟩) | (go_at_call 85; refine (Interest.grown_yes _ _ _ _ (by omega) (by omega) (by omega) (by omega) (by omega) (by omega) (by assumption)).mono ?_; rintro e w' ⟨rfl, rfl⟩))
          go_ret2
          exact ⟨Base.ret_ii (by rw [HY.out]; rfl) (by rw [HY.out]; rfl), rfl⟩
        · have hg' : 1000000000000 < Plain.gc a k y.toNat := by omega
          clear hg
          go_wp2_with (first | (go_at_call 87; refine (Interest.l04Grow_any _ _ _ _ (by omega) (by omega) (by omega) (by omega) (by omega) (by omega)).mono ?_; rintro e w' ⟨rfl, rfl⟩) | (go_at_call 85; refine (Interest.grown_no _ _ _ _ (by omega) (by omega) (by omega) (by omega) (by omega) (by omega) (by assumption)).mono ?_; rintro e w' ⟨rfl, rfl⟩))
          go_ret2
          exact ⟨Base.ret_ii (by rw [HY.out]; rfl) (by rw [HY.out]; rfl), rfl⟩
      · have HN : Hid (Plain.firstYes (rateB a l y.toNat) (201 - (k + 1)) (k + 1) = Plain.firstYes (rateB a l y.toNat) 201 0) := by
          show _ = _
          rw [← H.out, HF.out, Plain.firstYes_miss _ _ _ (by simp [rateB]; omega), show 201 - (k + 1) = f from by have := HF.out; omega]
        have hg : Plain.gc a k y.toNat ≤ 1000000000000 := by omega
        have hd' : Plain.gc a k y.toNat < l := by omega
        clear hd
        go_wp2_with (first | (go_at_call 87; refine (Interest.l04Grow_any _ _ _ _ (by omega) (by omega) (by omega) (by omega) (by omega) (by omega)).mono ?_; rintro e w' ⟨rfl, rfl⟩) | (go_at_call 85; refine (Interest.grown_yes _ _ _ _ (by omega) (by omega) (by omega) (by omega) (by omega) (by omega) (by assumption)).mono ?_; rintro e w' ⟨rfl, rfl⟩))
        go_round
        case rel => exact ⟨k + 1, by omega, by go_num, HN.out⟩
        case measure => simp [intOf]; omega
    · obtain rfl : k = 201 := by omega
      go_wp2
      go_ret2
      exact ⟨Base.ret_ii (by rw [← H.out]; rfl) (by rw [← H.out]; rfl), rfl⟩

set_option maxHeartbeats 400000 in
theorem implRateBetween_in (a l y : Int) (w : World) (h1 : 0 ≤ a) (h2 : a ≤ 1000000000) (h3 : 0 ≤ l) (h4 : l ≤ 1000000000) (h5 : 0 ≤ y) (h6 : y ≤ 120) :
    Calls Try.prog 37 #[.int .i64 a, .int .i64 l, .int .i64 y] w fun e w' => e = .returned (.tuple #[.int .i64 (Plain.numOf (Plain.firstYes (rateB a l y.toNat) 201 0)), .int .i64 (Plain.codeOf (Plain.firstYes (rateB a l y.toNat) 201 0))]) ∧ w = w' := by
  go_enter Try.func37, Try.ntmps37
  go_wp2_with (first
      | (go_at_call 65; refine (Base.l01In_yes _ _ _ _ (by omega) (by omega)).mono ?_; rintro e w' ⟨rfl, rfl⟩)
      | (go_at_call 65; refine (Base.l01In_no _ _ _ _ (by omega)).mono ?_; rintro e w' ⟨rfl, rfl⟩)
      | (go_at_call 63; refine (Base.inRange_yes _ _ _ _ (by omega) (by omega)).mono ?_; rintro e w' ⟨rfl, rfl⟩)
      | (go_at_call 63; refine (Base.inRange_no _ _ _ _ (by omega)).mono ?_; rintro e w' ⟨rfl, rfl⟩)
      | (go_at_call 70; refine (Base.spec_l01Money_yes _ _ (by omega) (by omega)).mono ?_; rintro e w' ⟨rfl, rfl⟩)
      | (go_at_call 70; refine (Base.spec_l01Money_no _ _ (by omega)).mono ?_; rintro e w' ⟨rfl, rfl⟩)
      | (go_at_call 68; refine (Base.impl_isMoney_yes _ _ (by omega) (by omega)).mono ?_; rintro e w' ⟨rfl, rfl⟩)
      | (go_at_call 68; refine (Base.impl_isMoney_no _ _ (by omega)).mono ?_; rintro e w' ⟨rfl, rfl⟩)
      | (go_at_call 79; refine (Base.spec_l02Month_yes _ _ (by omega) (by omega)).mono ?_; rintro e w' ⟨rfl, rfl⟩)
      | (go_at_call 79; refine (Base.spec_l02Month_no _ _ (by omega)).mono ?_; rintro e w' ⟨rfl, rfl⟩)
      | (go_at_call 78; refine (Base.impl_isMonth_yes _ _ (by omega) (by omega)).mono ?_; rintro e w' ⟨rfl, rfl⟩)
      | (go_at_call 78; refine (Base.impl_isMonth_no _ _ (by omega)).mono ?_; rintro e w' ⟨rfl, rfl⟩)
      | (go_at_call 90; refine (Base.spec_l04Rate_yes _ _ (by omega) (by omega)).mono ?_; rintro e w' ⟨rfl, rfl⟩)
      | (go_at_call 90; refine (Base.spec_l04Rate_no _ _ (by omega)).mono ?_; rintro e w' ⟨rfl, rfl⟩)
      | (go_at_call 89; refine (Base.impl_isRate_yes _ _ (by omega) (by omega)).mono ?_; rintro e w' ⟨rfl, rfl⟩)
      | (go_at_call 89; refine (Base.impl_isRate_no _ _ (by omega)).mono ?_; rintro e w' ⟨rfl, rfl⟩)
      | (go_at_call 84; refine (Base.impl_isYears_yes _ _ (by omega) (by omega)).mono ?_; rintro e w' ⟨rfl, rfl⟩)
      | (go_at_call 84; refine (Base.impl_isYears_no _ _ (by omega)).mono ?_; rintro e w' ⟨rfl, rfl⟩)
      | (go_at_call 86; refine (Base.spec_l04Amount_yes _ _ (by omega) (by omega)).mono ?_; rintro e w' ⟨rfl, rfl⟩)
      | (go_at_call 86; refine (Base.spec_l04Amount_no _ _ (by omega)).mono ?_; rintro e w' ⟨rfl, rfl⟩)
      | (go_at_call 83; refine (Base.impl_isAmount_yes _ _ (by omega) (by omega)).mono ?_; rintro e w' ⟨rfl, rfl⟩)
      | (go_at_call 83; refine (Base.impl_isAmount_no _ _ (by omega)).mono ?_; rintro e w' ⟨rfl, rfl⟩)
      | (go_at_call 94; refine (Base.spec_l04Loan_yes _ _ _ _ (by omega) (by omega) (by omega) (by omega) (by omega) (by omega)).mono ?_; rintro e w' ⟨rfl, rfl⟩)
      | (go_at_call 94; refine (Base.spec_l04Loan_no _ _ _ _ (by omega)).mono ?_; rintro e w' ⟨rfl, rfl⟩)
      | (go_at_call 92; refine (Base.impl_isLoan_yes _ _ _ _ (by omega) (by omega) (by omega) (by omega) (by omega) (by omega)).mono ?_; rintro e w' ⟨rfl, rfl⟩)
      | (go_at_call 92; refine (Base.impl_isLoan_no _ _ _ _ (by omega)).mono ?_; rintro e w' ⟨rfl, rfl⟩)
      | go_in)
  go_loop [8] (fun i => ∃ k : Nat, k ≤ 201 ∧ i = .int .i64 k ∧ Hid (Plain.firstYes (rateB a l y.toNat) (201 - k) k = Plain.firstYes (rateB a l y.toNat) 201 0)) (fun i => 201 - (intOf i).toNat)
  case atStart => exact ⟨0, by omega, rfl, rfl⟩
  case round =>
    obtain ⟨k, hk, rfl, H⟩ := hrel
    by_cases hlt : k ≤ 200
    · obtain ⟨f, hf⟩ : ∃ f, 201 - k = f + 1 := ⟨200 - k, by omega⟩
      have HF := Lib.hid hf
      clear hf
      obtain ⟨g1, g2⟩ := Plain.gc_bd a k h1 (by omega) (by omega) (by omega) y.toNat
      by_cases hd : l ≤ Plain.gc a k y.toNat
      · have HY : Hid (Plain.firstYes (rateB a l y.toNat) 201 0 = some k) := by show _ = _; rw [← H.out, HF.out, Plain.firstYes_hit _ _ _ (by simp [rateB, hd])]
        by_cases hg : Plain.gc a k y.toNat ≤ 1000000000000
        · go_wp2_with (first | (go_at_call 87; refine (Interest.l04Grow_any _ _ _ _ (by omega) (by omega) (by omega) (by omega) (by omega) (by omega)).mono ?_; rintro e w' ⟨rfl, rfl⟩) | (go_at_call 85; refine (Interest.grown_yes _ _ _ _ (by omega) (by omega) (by omega) (by omega) (by omega) (by omega) (by assumption)).mono ?_; rintro e w' ⟨rfl, rfl⟩))
          go_ret2
          exact ⟨Base.ret_ii (by rw [HY.out]; rfl) (by rw [HY.out]; rfl), rfl⟩
        · have hg' : 1000000000000 < Plain.gc a k y.toNat := by omega
          clear hg
          go_wp2_with (first | (go_at_call 87; refine (Interest.l04Grow_any _ _ _ _ (by omega) (by omega) (by omega) (by omega) (by omega) (by omega)).mono ?_; rintro e w' ⟨rfl, rfl⟩) | (go_at_call 85; refine (Interest.grown_no _ _ _ _ (by omega) (by omega) (by omega) (by omega) (by omega) (by omega) (by assumption)).mono ?_; rintro e w' ⟨rfl, rfl⟩))
          go_ret2
          exact ⟨Base.ret_ii (by rw [HY.out]; rfl) (by rw [HY.out]; rfl), rfl⟩
      · have HN : Hid (Plain.firstYes (rateB a l y.toNat) (201 - (k + 1)) (k + 1) = Plain.firstYes (rateB a l y.toNat) 201 0) := by
          show _ = _
          rw [← H.out, HF.out, Plain.firstYes_miss _ _ _ (by simp [rateB]; omega), show 201 - (k + 1) = f from by have := HF.out; omega]
        have hg : Plain.gc a k y.toNat ≤ 1000000000000 := by omega
        have hd' : Plain.gc a k y.toNat < l := by omega
        clear hd
        go_wp2_with (first | (go_at_call 87; refine (Interest.l04Grow_any _ _ _ _ (by omega) (by omega) (by omega) (by omega) (by omega) (by omega)).mono ?_; rintro e w' ⟨rfl, rfl⟩) | (go_at_call 85; refine (Interest.grown_yes _ _ _ _ (by omega) (by omega) (by omega) (by omega) (by omega) (by omega) (by assumption)).mono ?_; rintro e w' ⟨rfl, rfl⟩))
        go_round
        case rel => exact ⟨k + 1, by omega, by go_num, HN.out⟩
        case measure => simp [intOf]; omega
    · obtain rfl : k = 201 := by omega
      go_wp2
      go_ret2
      exact ⟨Base.ret_ii (by rw [← H.out]; rfl) (by rw [← H.out]; rfl), rfl⟩

end Go.Proofs.Ytdafgpikgpobbaa.Searches
