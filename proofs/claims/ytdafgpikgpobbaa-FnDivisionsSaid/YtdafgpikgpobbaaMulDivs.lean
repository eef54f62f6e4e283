/-
  Contracts of the reference's l05Divide and of MultiplyDivide of both packages.
  Conditions: as each contract says.
-/
import Derived.Test.YtdafgpikgpobbaaMulDivPlain
import Derived.Test.YtdafgpikgpobbaaMem
namespace Go.Proofs.Ytdafgpikgpobbaa.MulDivs
open Go.RowKit Mem MulDivPlain
set_option linter.unusedVariables false

set_option maxHeartbeats 1000000 in
theorem l05Divide_any (a b c : Int) (w : World) (a0 : 0 ≤ a) (a1 : a ≤ 1000000000000) (b0' : 0 ≤ b) (b1 : b ≤ 1000000000000000000) (c0 : 1 ≤ c) (c1 : c ≤ 1000000000000000000) :
    Calls Try.prog 82 #[.int .i64 a, .int .i64 b, .int .i64 c] w fun e w' => ∃ q r : Int, e = .returned (.tuple #[.int .i64 q, .int .i64 r]) ∧ w = w' ∧ ((q ≤ 1000000000000000000 ∧ q = a * b / c ∧ r = a * b % c) ∨ (1000000000000000000 < q ∧ 1000000000000000000 < a * b / c)) := by
  have qb0 : 0 ≤ b / c := Int.ediv_nonneg b0' (by omega)
  have qb1 : b / c ≤ b := Int.ediv_le_self _ b0'
  have rb0 : 0 ≤ b % c := Int.emod_nonneg _ (by omega)
  have rb1 : b % c < c := Int.emod_lt_of_pos _ (by omega)
  go_enter Try.func82, Try.ntmps82
  go_wp2
  go_loop [8, 9, 10] (fun qq rr bb => ∃ (j : Nat) (z q r : Int), bb = .int .i64 z ∧ qq = .int .i64 q ∧ rr = .int .i64 r ∧ z + 1 ≤ j ∧ (j : Int) ≤ z + 1 ∧ j ≤ 42 ∧ 0 ≤ q ∧ q ≤ 1000000000000000000 ∧ 0 ≤ r ∧ r < c ∧ Hid (q = top a j * b / c ∧ r = top a j * b % c)) (fun _ _ bb => (intOf bb + 1).toNat)
  case atStart => exact ⟨42, 41, 0, 0, rfl, rfl, rfl, by omega, by omega, by omega, by omega, by omega, by omega, by omega, by rw [top_42 a0 a1, Int.zero_mul]; simp, by rw [top_42 a0 a1, Int.zero_mul]; simp⟩
  case round =>
    obtain ⟨j, z, q, r, rfl, rfl, rfl, z1, z2, j1, q0, q1, r0, r1, H⟩ := hrel
    by_cases hz : 0 ≤ z
    · obtain ⟨i, rfl⟩ := Int.eq_ofNat_of_zero_le hz
      obtain rfl : j = i + 1 := by omega
      have hi : i ≤ 41 := by omega
      clear z1 z2
      have ts := top_succ a i
      have tb := top_bd a0 i
      have td : top a i % 2 = 0 ∨ top a i % 2 = 1 := by omega
      have st := md_step (top a (i + 1)) b c (top a i % 2) (by omega)
      rw [← ts, ← H.out.1, ← H.out.2] at st
      have QM := Lib.hid (q_mono (b := b) (c := c) a0 b0' (by omega) i)
      have TE : top a i = a / 2 ^ i := rfl
      rcases td with td | td
      · rw [td] at st
        simp only [Int.zero_mul, Int.add_zero] at st
        have hpar : ((a / 2 ^ i).tmod 2 == 1) = false := by rw [← TE, Int.tmod_eq_emod_of_nonneg tb.1, td]; rfl
        have X0 : 0 ≤ 2 * r / c := Int.ediv_nonneg (by omega) (by omega)
        have X1 : 2 * r / c ≤ 2 := by have : 2 * r / c < 3 := Int.ediv_lt_of_lt_mul (by omega) (by omega); omega
        have ST := Lib.hid st
        have Y0 : 0 ≤ 2 * r % c := Int.emod_nonneg _ (by omega)
        have Y1 : 2 * r % c < c := Int.emod_lt_of_pos _ (by omega)
        clear st ts tb td TE H
        by_cases hbig : 1000000000000000000 < 2 * q + 2 * r / c
        · go_wp2_with fail
          go_ret2
          exact ⟨_, _, rfl, rfl, .inr ⟨by omega, by have h1 := QM.out; have h2 := ST.out.1; omega⟩⟩
        · have hsm : 2 * q + 2 * r / c ≤ 1000000000000000000 := by omega
          clear hbig
          go_wp2_with fail
          go_round
          case rel => exact ⟨i, (i : Int) - 1, _, _, rfl, rfl, rfl, by omega, by omega, by omega, by omega, by omega, by omega, by omega, ST.out⟩
          case measure => simp [intOf] <;> omega
      · rw [td] at st
        simp only [Int.one_mul] at st
        have hpar : ((a / 2 ^ i).tmod 2 == 1) = true := by rw [← TE, Int.tmod_eq_emod_of_nonneg tb.1, td]; rfl
        have X0 : 0 ≤ (2 * r + b % c) / c := Int.ediv_nonneg (by omega) (by omega)
        have X1 : (2 * r + b % c) / c ≤ 3 := by have : (2 * r + b % c) / c < 4 := Int.ediv_lt_of_lt_mul (by omega) (by omega); omega
        have ST := Lib.hid st
        have Y0 : 0 ≤ (2 * r + b % c) % c := Int.emod_nonneg _ (by omega)
        have Y1 : (2 * r + b % c) % c < c := Int.emod_lt_of_pos _ (by omega)
        clear st ts tb td TE H
        by_cases hbig : 1000000000000000000 < 2 * q + b / c + (2 * r + b % c) / c
        · go_wp2_with fail
          go_ret2
          exact ⟨_, _, rfl, rfl, .inr ⟨by omega, by have h1 := QM.out; have h2 := ST.out.1; omega⟩⟩
        · have hsm : 2 * q + b / c + (2 * r + b % c) / c ≤ 1000000000000000000 := by omega
          clear hbig
          go_wp2_with fail
          go_round
          case rel => exact ⟨i, (i : Int) - 1, _, _, rfl, rfl, rfl, by omega, by omega, by omega, by omega, by omega, by omega, by omega, ST.out⟩
          case measure => simp [intOf] <;> omega
    · obtain rfl : j = 0 := by omega
      have H2 := Lib.hid (by have := H.out; rw [top_0] at this; exact this)
      have hzn : z < 0 := by omega
      clear hz H
      go_wp2_with fail
      go_ret2
      exact ⟨q, r, rfl, rfl, .inl ⟨q1, H2.out.1, H2.out.2⟩⟩

theorem md_out {a b c : Int} (h : ¬ (0 ≤ a ∧ a ≤ 1000000000000) ∨ ¬ (0 ≤ b ∧ b ≤ 1000000000000000000) ∨ ¬ (1 ≤ c ∧ c ≤ 1000000000000000000)) : mdQ a b c = 0 ∧ mdR a b c = 0 ∧ mdC a b c = 2 := by
  have : okB a b c = false := by
    unfold okB
    rcases h with h | h | h
    · rw [decide_eq_false h]; rfl
    · rw [decide_eq_false h, Bool.false_and, Bool.and_false]
    · rw [decide_eq_false h, Bool.and_false, Bool.and_false]
  have f : fits a b c = false := by unfold fits; rw [this]; rfl
  unfold mdQ mdR mdC
  rw [this, f]; exact ⟨rfl, rfl, rfl⟩
theorem md_in {a b c : Int} (h1 : 0 ≤ a ∧ a ≤ 1000000000000) (h2 : 0 ≤ b ∧ b ≤ 1000000000000000000) (h3 : 1 ≤ c ∧ c ≤ 1000000000000000000) :
    (a * b / c ≤ 1000000000000000000 → mdQ a b c = a * b / c ∧ mdR a b c = a * b % c ∧ mdC a b c = 0) ∧ (1000000000000000000 < a * b / c → mdQ a b c = 0 ∧ mdR a b c = 0 ∧ mdC a b c = 3) := by
  have ok : okB a b c = true := by unfold okB; rw [decide_eq_true h1, decide_eq_true h2, decide_eq_true h3]; rfl
  constructor
  · intro g
    have f : fits a b c = true := by unfold fits; rw [ok, decide_eq_true g]; rfl
    unfold mdQ mdR mdC; rw [ok, f]; exact ⟨rfl, rfl, rfl⟩
  · intro g
    have f : fits a b c = false := by unfold fits; rw [ok, decide_eq_false (by omega)]; rfl
    unfold mdQ mdR mdC; rw [ok, f]; exact ⟨rfl, rfl, rfl⟩
theorem md_zero {a b c : Int} (h : mdC a b c = 0) : 0 ≤ mdR a b c ∧ mdR a b c < c ∧ 0 ≤ mdQ a b c ∧ 1 ≤ c ∧ (b ≤ 1000000000000 → mdQ b a c = mdQ a b c ∧ mdR b a c = mdR a b c ∧ mdC b a c = 0) := by
  by_cases h1 : 0 ≤ a ∧ a ≤ 1000000000000
  · by_cases h2 : 0 ≤ b ∧ b ≤ 1000000000000000000
    · by_cases h3 : 1 ≤ c ∧ c ≤ 1000000000000000000
      · have M := md_in h1 h2 h3
        by_cases g : a * b / c ≤ 1000000000000000000
        · obtain ⟨m1, m2, m3⟩ := M.1 g
          rw [m1, m2]
          refine ⟨Int.emod_nonneg _ (by omega), Int.emod_lt_of_pos _ (by omega), Int.ediv_nonneg (Int.mul_nonneg h1.1 h2.1) (by omega), h3.1, fun hb => ?_⟩
          have N := md_in (a := b) (b := a) (c := c) ⟨h2.1, hb⟩ ⟨h1.1, by omega⟩ h3
          rw [Int.mul_comm b a] at N
          exact N.1 g
        · have := (M.2 (by omega)).2.2; omega
      · have := (md_out (a := a) (b := b) (c := c) (.inr (.inr h3))).2.2; omega
    · have := (md_out (a := a) (b := b) (c := c) (.inr (.inl h2))).2.2; omega
  · have := (md_out (a := a) (b := b) (c := c) (.inl h1)).2.2; omega
theorem md_ret {a b c q r d : Int} (h : mdQ a b c = q ∧ mdR a b c = r ∧ mdC a b c = d) : Ending.returned (.tuple #[.int .i64 q, .int .i64 r, .int .i64 d]) = .returned (.tuple #[.int .i64 (mdQ a b c), .int .i64 (mdR a b c), .int .i64 (mdC a b c)]) := by rw [h.1, h.2.1, h.2.2]

set_option maxHeartbeats 1000000 in
theorem specMultiplyDivide_any (a b c : Int) (w : World) :
    Calls Try.prog 35 #[.int .i64 a, .int .i64 b, .int .i64 c] w fun e w' => e = .returned (.tuple #[.int .i64 (mdQ a b c), .int .i64 (mdR a b c), .int .i64 (mdC a b c)]) ∧ w = w' := by
  by_cases h1 : 0 ≤ a ∧ a ≤ 1000000000000
  · by_cases h2 : 0 ≤ b ∧ b ≤ 1000000000000000000
    · by_cases h3 : 1 ≤ c ∧ c ≤ 1000000000000000000
      · have M := Lib.hid (md_in h1 h2 h3)
        obtain ⟨a0, a1⟩ := h1
        obtain ⟨b0', b1⟩ := h2
        obtain ⟨c0, c1⟩ := h3
        have D := Lib.hid (fun w => l05Divide_any a b c w a0 a1 b0' b1 c0 c1)
        go_enter Try.func35, Try.ntmps35
        go_wp2_with (first
      | (go_at_call 65; refine (Base.l01In_yes _ _ _ _ (by omega) (by omega)).mono ?_; rintro e w' ⟨rfl, rfl⟩)
      | (go_at_call 65; refine (Base.l01In_no _ _ _ _ (by omega)).mono ?_; rintro e w' ⟨rfl, rfl⟩)
      | (go_at_call 63; refine (Base.inRange_yes _ _ _ _ (by omega) (by omega)).mono ?_; rintro e w' ⟨rfl, rfl⟩)
      | (go_at_call 63; refine (Base.inRange_no _ _ _ _ (by omega)).mono ?_; rintro e w' ⟨rfl, rfl⟩)
      | (go_at_call 70; refine (Base.spec_l01Money_yes _ _ (by omega) (by omega)).mono ?_; rintro e w' ⟨rfl, rfl⟩)
      | (go_at_call 70; refine (Base.spec_l01Money_no _ _ (by omega)).mono ?_; rintro e w' ⟨rfl, rfl⟩)
      | (go_at_call 68; refine (Base.impl_isMoney_yes _ _ (by omega) (by omega)).mono ?_; rintro e w' ⟨rfl, rfl⟩)
      | (go_at_call 68; refine (Base.impl_isMoney_no _ _ (by omega)).mono ?_; rintro e w' ⟨rfl, rfl⟩)
      | (go_at_call 79; refine (Base.spec_l02Month_yes _ _ (by omega) (by omega)).mono ?_; rintro e w' ⟨rfl, rfl⟩)
      | (go_at_call 79; refine (Base.spec_l02Month_no _ _ (by omega)).mono ?_; rintro e w' ⟨rfl, rfl⟩)
      | (go_at_call 78; refine (Base.impl_isMonth_yes _ _ (by omega) (by omega)).mono ?_; rintro e w' ⟨rfl, rfl⟩)
      | (go_at_call 78; refine (Base.impl_isMonth_no _ _ (by omega)).mono ?_; rintro e w' ⟨rfl, rfl⟩)
      | (go_at_call 90; refine (Base.spec_l04Rate_yes _ _ (by omega) (by omega)).mono ?_; rintro e w' ⟨rfl, rfl⟩)
      | (go_at_call 90; refine (Base.spec_l04Rate_no _ _ (by omega)).mono ?_; rintro e w' ⟨rfl, rfl⟩)
      | (go_at_call 89; refine (Base.impl_isRate_yes _ _ (by omega) (by omega)).mono ?_; rintro e w' ⟨rfl, rfl⟩)
      | (go_at_call 89; refine (Base.impl_isRate_no _ _ (by omega)).mono ?_; rintro e w' ⟨rfl, rfl⟩)
      | (go_at_call 84; refine (Base.impl_isYears_yes _ _ (by omega) (by omega)).mono ?_; rintro e w' ⟨rfl, rfl⟩)
      | (go_at_call 84; refine (Base.impl_isYears_no _ _ (by omega)).mono ?_; rintro e w' ⟨rfl, rfl⟩)
      | (go_at_call 86; refine (Base.spec_l04Amount_yes _ _ (by omega) (by omega)).mono ?_; rintro e w' ⟨rfl, rfl⟩)
      | (go_at_call 86; refine (Base.spec_l04Amount_no _ _ (by omega)).mono ?_; rintro e w' ⟨rfl, rfl⟩)
      | (go_at_call 83; refine (Base.impl_isAmount_yes _ _ (by omega) (by omega)).mono ?_; rintro e w' ⟨rfl, rfl⟩)
      | (go_at_call 83; refine (Base.impl_isAmount_no _ _ (by omega)).mono ?_; rintro e w' ⟨rfl, rfl⟩)
      | (go_at_call 94; refine (Base.spec_l04Loan_yes _ _ _ _ (by omega) (by omega) (by omega) (by omega) (by omega) (by omega)).mono ?_; rintro e w' ⟨rfl, rfl⟩)
      | (go_at_call 94; refine (Base.spec_l04Loan_no _ _ _ _ (by omega)).mono ?_; rintro e w' ⟨rfl, rfl⟩)
      | (go_at_call 92; refine (Base.impl_isLoan_yes _ _ _ _ (by omega) (by omega) (by omega) (by omega) (by omega) (by omega)).mono ?_; rintro e w' ⟨rfl, rfl⟩)
      | (go_at_call 92; refine (Base.impl_isLoan_no _ _ _ _ (by omega)).mono ?_; rintro e w' ⟨rfl, rfl⟩)
      | (go_at_call 82; refine (D.out _).mono ?_; rintro e w' ⟨q, r, rfl, rfl, hqr⟩; have HQ := Lib.hid hqr; clear hqr))
        · have hq := HQ.out
          go_ret3
          exact ⟨md_ret (M.out.2 (by omega)), rfl⟩
        · have hq := HQ.out
          go_ret3
          rcases hq with ⟨h5, rfl, rfl⟩ | ⟨h5, h6⟩
          · exact ⟨md_ret (M.out.1 h5), rfl⟩
          · omega
      · have R := Lib.hid (md_out (a := a) (b := b) (c := c) (.inr (.inr h3)))
        obtain ⟨a0, a1⟩ := h1
        obtain ⟨b0', b1⟩ := h2
        have h3' : c < 1 ∨ 1000000000000000000 < c := by omega
        clear h3
        go_enter Try.func35, Try.ntmps35
        go_wp2_with (first
      | (go_at_call 65; refine (Base.l01In_yes _ _ _ _ (by omega) (by omega)).mono ?_; rintro e w' ⟨rfl, rfl⟩)
      | (go_at_call 65; refine (Base.l01In_no _ _ _ _ (by omega)).mono ?_; rintro e w' ⟨rfl, rfl⟩)
      | (go_at_call 63; refine (Base.inRange_yes _ _ _ _ (by omega) (by omega)).mono ?_; rintro e w' ⟨rfl, rfl⟩)
      | (go_at_call 63; refine (Base.inRange_no _ _ _ _ (by omega)).mono ?_; rintro e w' ⟨rfl, rfl⟩)
      | (go_at_call 70; refine (Base.spec_l01Money_yes _ _ (by omega) (by omega)).mono ?_; rintro e w' ⟨rfl, rfl⟩)
      | (go_at_call 70; refine (Base.spec_l01Money_no _ _ (by omega)).mono ?_; rintro e w' ⟨rfl, rfl⟩)
      | (go_at_call 68; refine (Base.impl_isMoney_yes _ _ (by omega) (by omega)).mono ?_; rintro e w' ⟨rfl, rfl⟩)
      | (go_at_call 68; refine (Base.impl_isMoney_no _ _ (by omega)).mono ?_; rintro e w' ⟨rfl, rfl⟩)
      | (go_at_call 79; refine (Base.spec_l02Month_yes _ _ (by omega) (by omega)).mono ?_; rintro e w' ⟨rfl, rfl⟩)
      | (go_at_call 79; refine (Base.spec_l02Month_no _ _ (by omega)).mono ?_; rintro e w' ⟨rfl, rfl⟩)
      | (go_at_call 78; refine (Base.impl_isMonth_yes _ _ (by omega) (by omega)).mono ?_; rintro e w' ⟨rfl, rfl⟩)
      | (go_at_call 78; refine (Base.impl_isMonth_no _ _ (by omega)).mono ?_; rintro e w' ⟨rfl, rfl⟩)
      | (go_at_call 90; refine (Base.spec_l04Rate_yes _ _ (by omega) (by omega)).mono ?_; rintro e w' ⟨rfl, rfl⟩)
      | (go_at_call 90; refine (Base.spec_l04Rate_no _ _ (by omega)).mono ?_; rintro e w' ⟨rfl, rfl⟩)
      | (go_at_call 89; refine (Base.impl_isRate_yes _ _ (by omega) (by omega)).mono ?_; rintro e w' ⟨rfl, rfl⟩)
      | (go_at_call 89; refine (Base.impl_isRate_no _ _ (by omega)).mono ?_; rintro e w' ⟨rfl, rfl⟩)
      | (go_at_call 84; refine (Base.impl_isYears_yes _ _ (by omega) (by omega)).mono ?_; rintro e w' ⟨rfl, rfl⟩)
      | (go_at_call 84; refine (Base.impl_isYears_no _ _ (by omega)).mono ?_; rintro e w' ⟨rfl, rfl⟩)
      | (go_at_call 86; refine (Base.spec_l04Amount_yes _ _ (by omega) (by omega)).mono ?_; rintro e w' ⟨rfl, rfl⟩)
      | (go_at_call 86; refine (Base.spec_l04Amount_no _ _ (by omega)).mono ?_; rintro e w' ⟨rfl, rfl⟩)
      | (go_at_call 83; refine (Base.impl_isAmount_yes _ _ (by omega) (by omega)).mono ?_; rintro e w' ⟨rfl, rfl⟩)
      | (go_at_call 83; refine (Base.impl_isAmount_no _ _ (by omega)).mono ?_; rintro e w' ⟨rfl, rfl⟩)
      | (go_at_call 94; refine (Base.spec_l04Loan_yes _ _ _ _ (by omega) (by omega) (by omega) (by omega) (by omega) (by omega)).mono ?_; rintro e w' ⟨rfl, rfl⟩)
      | (go_at_call 94; refine (Base.spec_l04Loan_no _ _ _ _ (by omega)).mono ?_; rintro e w' ⟨rfl, rfl⟩)
      | (go_at_call 92; refine (Base.impl_isLoan_yes _ _ _ _ (by omega) (by omega) (by omega) (by omega) (by omega) (by omega)).mono ?_; rintro e w' ⟨rfl, rfl⟩)
      | (go_at_call 92; refine (Base.impl_isLoan_no _ _ _ _ (by omega)).mono ?_; rintro e w' ⟨rfl, rfl⟩)
     )
        go_ret3
        exact ⟨md_ret R.out, rfl⟩
    · have R := Lib.hid (md_out (a := a) (b := b) (c := c) (.inr (.inl h2)))
      obtain ⟨a0, a1⟩ := h1
      have h2' : b < 0 ∨ 1000000000000000000 < b := by omega
      clear h2
      go_enter Try.func35, Try.ntmps35
      go_wp2_with (first
      | (go_at_call 65; refine (Base.l01In_yes _ _ _ _ (by omega) (by omega)).mono ?_; rintro e w' ⟨rfl, rfl⟩)
      | (go_at_call 65; refine (Base.l01In_no _ _ _ _ (by omega)).mono ?_; rintro e w' ⟨rfl, rfl⟩)
      | (go_at_call 63; refine (Base.inRange_yes _ _ _ _ (by omega) (by omega)).mono ?_; rintro e w' ⟨rfl, rfl⟩)
      | (go_at_call 63; refine (Base.inRange_no _ _ _ _ (by omega)).mono ?_; rintro e w' ⟨rfl, rfl⟩)
      | (go_at_call 70; refine (Base.spec_l01Money_yes _ _ (by omega) (by omega)).mono ?_; rintro e w' ⟨rfl, rfl⟩)
      | (go_at_call 70; refine (Base.spec_l01Money_no _ _ (by omega)).mono ?_; rintro e w' ⟨rfl, rfl⟩)
      | (go_at_call 68; refine (Base.impl_isMoney_yes _ _ (by omega) (by omega)).mono ?_; rintro e w' ⟨rfl, rfl⟩)
      | (go_at_call 68; refine (Base.impl_isMoney_no _ _ (by omega)).mono ?_; rintro e w' ⟨rfl, rfl⟩)
      | (go_at_call 79; refine (Base.spec_l02Month_yes _ _ (by omega) (by omega)).mono ?_; rintro e w' ⟨rfl, rfl⟩)
      | (go_at_call 79; refine (Base.spec_l02Month_no _ _ (by omega)).mono ?_; rintro e w' ⟨rfl, rfl⟩)
      | (go_at_call 78; refine (Base.impl_isMonth_yes _ _ (by omega) (by omega)).mono ?_; rintro e w' ⟨rfl, rfl⟩)
      | (go_at_call 78; refine (Base.impl_isMonth_no _ _ (by omega)).mono ?_; rintro e w' ⟨rfl, rfl⟩)
      | (go_at_call 90; refine (Base.spec_l04Rate_yes _ _ (by omega) (by omega)).mono ?_; rintro e w' ⟨rfl, rfl⟩)
      | (go_at_call 90; refine (Base.spec_l04Rate_no _ _ (by omega)).mono ?_; rintro e w' ⟨rfl, rfl⟩)
      | (go_at_call 89; refine (Base.impl_isRate_yes _ _ (by omega) (by omega)).mono ?_; rintro e w' ⟨rfl, rfl⟩)
      | (go_at_call 89; refine (Base.impl_isRate_no _ _ (by omega)).mono ?_; rintro e w' ⟨rfl, rfl⟩)
      | (go_at_call 84; refine (Base.impl_isYears_yes _ _ (by omega) (by omega)).mono ?_; rintro e w' ⟨rfl, rfl⟩)
      | (go_at_call 84; refine (Base.impl_isYears_no _ _ (by omega)).mono ?_; rintro e w' ⟨rfl, rfl⟩)
      | (go_at_call 86; refine (Base.spec_l04Amount_yes _ _ (by omega) (by omega)).mono ?_; rintro e w' ⟨rfl, rfl⟩)
      | (go_at_call 86; refine (Base.spec_l04Amount_no _ _ (by omega)).mono ?_; rintro e w' ⟨rfl, rfl⟩)
      | (go_at_call 83; refine (Base.impl_isAmount_yes _ _ (by omega) (by omega)).mono ?_; rintro e w' ⟨rfl, rfl⟩)
      | (go_at_call 83; refine (Base.impl_isAmount_no _ _ (by omega)).mono ?_; rintro e w' ⟨rfl, rfl⟩)
      | (go_at_call 94; refine (Base.spec_l04Loan_yes _ _ _ _ (by omega) (by omega) (by omega) (by omega) (by omega) (by omega)).mono ?_; rintro e w' ⟨rfl, rfl⟩)
      | (go_at_call 94; refine (Base.spec_l04Loan_no _ _ _ _ (by omega)).mono ?_; rintro e w' ⟨rfl, rfl⟩)
      | (go_at_call 92; refine (Base.impl_isLoan_yes _ _ _ _ (by omega) (by omega) (by omega) (by omega) (by omega) (by omega)).mono ?_; rintro e w' ⟨rfl, rfl⟩)
      | (go_at_call 92; refine (Base.impl_isLoan_no _ _ _ _ (by omega)).mono ?_; rintro e w' ⟨rfl, rfl⟩)
     )
      go_ret3
      exact ⟨md_ret R.out, rfl⟩
  · have R := Lib.hid (md_out (a := a) (b := b) (c := c) (.inl h1))
    have h1' : a < 0 ∨ 1000000000000 < a := by omega
    clear h1
    go_enter Try.func35, Try.ntmps35
    go_wp2_with (first
      | (go_at_call 65; refine (Base.l01In_yes _ _ _ _ (by omega) (by omega)).mono ?_; rintro e w' ⟨rfl, rfl⟩)
      | (go_at_call 65; refine (Base.l01In_no _ _ _ _ (by omega)).mono ?_; rintro e w' ⟨rfl, rfl⟩)
      | (go_at_call 63; refine (Base.inRange_yes _ _ _ _ (by omega) (by omega)).mono ?_; rintro e w' ⟨rfl, rfl⟩)
      | (go_at_call 63; refine (Base.inRange_no _ _ _ _ (by omega)).mono ?_; rintro e w' ⟨rfl, rfl⟩)
      | (go_at_call 70; refine (Base.spec_l01Money_yes _ _ (by omega) (by omega)).mono ?_; rintro e w' ⟨rfl, rfl⟩)
      | (go_at_call 70; refine (Base.spec_l01Money_no _ _ (by omega)).mono ?_; rintro e w' ⟨rfl, rfl⟩)
      | (go_at_call 68; refine (Base.impl_isMoney_yes _ _ (by omega) (by omega)).mono ?_; rintro e w' ⟨rfl, rfl⟩)
      | (go_at_call 68; refine (Base.impl_isMoney_no _ _ (by omega)).mono ?_; rintro e w' ⟨rfl, rfl⟩)
      | (go_at_call 79; refine (Base.spec_l02Month_yes _ _ (by omega) (by omega)).mono ?_; rintro e w' ⟨rfl, rfl⟩)
      | (go_at_call 79; refine (Base.spec_l02Month_no _ _ (by omega)).mono ?_; rintro e w' ⟨rfl, rfl⟩)
      | (go_at_call 78; refine (Base.impl_isMonth_yes _ _ (by omega) (by omega)).mono ?_; rintro e w' ⟨rfl, rfl⟩)
      | (go_at_call 78; refine (Base.impl_isMonth_no _ _ (by omega)).mono ?_; rintro e w' ⟨rfl, rfl⟩)
      | (go_at_call 90; refine (Base.spec_l04Rate_yes _ _ (by omega) (by omega)).mono ?_; rintro e w' ⟨rfl, rfl⟩)
      | (go_at_call 90; refine (Base.spec_l04Rate_no _ _ (by omega)).mono ?_; rintro e w' ⟨rfl, rfl⟩)
      | (go_at_call 89; refine (Base.impl_isRate_yes _ _ (by omega) (by omega)).mono ?_; rintro e w' ⟨rfl, rfl⟩)
      | (go_at_call 89; refine (Base.impl_isRate_no _ _ (by omega)).mono ?_; rintro e w' ⟨rfl, rfl⟩)
      | (go_at_call 84; refine (Base.impl_isYears_yes _ _ (by omega) (by omega)).mono ?_; rintro e w' ⟨rfl, rfl⟩)
      | (go_at_call 84; refine (Base.impl_isYears_no _ _ (by omega)).mono ?_; rintro e w' ⟨rfl, rfl⟩)
      | (go_at_call 86; refine (Base.spec_l04Amount_yes _ _ (by omega) (by omega)).mono ?_; rintro e w' ⟨rfl, rfl⟩)
      | (go_at_call 86; refine (Base.spec_l04Amount_no _ _ (by omega)).mono ?_; rintro e w' ⟨rfl, rfl⟩)
      | (go_at_call 83; refine (Base.impl_isAmount_yes _ _ (by omega) (by omega)).mono ?_; rintro e w' ⟨rfl, rfl⟩)
      | (go_at_call 83; refine (Base.impl_isAmount_no _ _ (by omega)).mono ?_; rintro e w' ⟨rfl, rfl⟩)
      | (go_at_call 94; refine (Base.spec_l04Loan_yes _ _ _ _ (by omega) (by omega) (by omega) (by omega) (by omega) (by omega)).mono ?_; rintro e w' ⟨rfl, rfl⟩)
      | (go_at_call 94; refine (Base.spec_l04Loan_no _ _ _ _ (by omega)).mono ?_; rintro e w' ⟨rfl, rfl⟩)
      | (go_at_call 92; refine (Base.impl_isLoan_yes _ _ _ _ (by omega) (by omega) (by omega) (by omega) (by omega) (by omega)).mono ?_; rintro e w' ⟨rfl, rfl⟩)
      | (go_at_call 92; refine (Base.impl_isLoan_no _ _ _ _ (by omega)).mono ?_; rintro e w' ⟨rfl, rfl⟩)
     )
    go_ret3
    exact ⟨md_ret R.out, rfl⟩
end Go.Proofs.Ytdafgpikgpobbaa.MulDivs
