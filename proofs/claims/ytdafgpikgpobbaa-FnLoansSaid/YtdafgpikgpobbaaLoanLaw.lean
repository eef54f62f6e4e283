/-
  What the law on loans asks of a plan, and the contracts of LoanPayment for all arguments.
  Conditions: none.
-/
import Derived.Test.YtdafgpikgpobbaaLoanPlans
import Derived.Test.YtdafgpikgpobbaaLikes
import Derived.Test.YtdafgpikgpobbaaDivs
namespace Go.Proofs.Ytdafgpikgpobbaa.LoanLaw
open Go.RowKit Mem LoanPlans
set_option linter.unusedVariables false

def payV (a r y : Int) : Int := if isLoan a r y then pay a r y.toNat else 0
def payC (a r y : Int) : Int := if isLoan a r y then 0 else 2

theorem pays_get (p r a : Int) (n k : Nat) (h : k < n) : (pays p r a n).getD k 0 = min p (nb r (bal p r a k)) := by
  induction n with
  | zero => omega
  | succ n ih =>
    show (pays p r a n ++ [_]).getD k 0 = _
    by_cases e : k = n
    · subst e
      simp [List.getD, pays_length]
    · have hk : k < n := by omega
      rw [← ih hk]
      simp [List.getD, List.getElem?_append, pays_length, hk]

/-- A plan's balances. -/
def Plans (a r y : Int) : Prop := ∃ (B : Nat → Int), 0 ≤ r ∧ r ≤ 200 ∧ 0 ≤ payV a r y ∧ payV a r y ≤ 100000000000000000 ∧ payC a r y = 0 ∧ B 0 = a ∧ (∀ k, 0 ≤ B k ∧ B k ≤ 100000000) ∧ B (planA a r y).length = 0 ∧
  ∀ k, k < (planA a r y).length → 1 ≤ (planA a r y).getD k 0 ∧ (planA a r y).getD k 0 ≤ payV a r y ∧ (k + 1 < (planA a r y).length → (planA a r y).getD k 0 = payV a r y) ∧ B (k + 1) = B k + Plain.upq (B k * r) 1000 - (planA a r y).getD k 0

theorem plans (a r y : Int) (h : codeA a r y = 0) : Plans a r y := by
  unfold codeA at h
  by_cases hl : isLoan a r y = true
  · rw [if_pos hl] at h
    have hb : 1 ≤ a ∧ a ≤ 100000000 ∧ 0 ≤ r ∧ r ≤ 200 ∧ 1 ≤ y ∧ y ≤ 60 := by simpa [isLoan] using hl
    obtain ⟨a1, a2, r1, r2, y1, y2⟩ := hb
    have hpl : planA a r y = plan a r y.toNat := by unfold planA; rw [if_pos hl]
    have hpv : payV a r y = pay a r y.toNat := by unfold payV; rw [if_pos hl]
    have hpc : payC a r y = 0 := by unfold payC; rw [if_pos hl]
    have he := pay_enough a r y.toNat a1 r1 r2 (by omega)
    have hpp : 1 ≤ pay a r y.toNat := by
      unfold pay
      have g := Plain.upq_ge (a * 1000000000) _ (Plain.dsum_pos r r1 r2 y.toNat (by omega))
      have p := Plain.dsum_pos r r1 r2 y.toNat (by omega)
      rcases Int.lt_or_le 0 (Plain.upq (a * 1000000000) (Plain.dsum r 1 y.toNat)) with h | h
      · omega
      · have := Int.mul_nonneg (show 0 ≤ -Plain.upq (a * 1000000000) (Plain.dsum r 1 y.toNat) by omega) (show 0 ≤ Plain.dsum r 1 y.toNat by omega)
        rw [Int.neg_mul] at this; omega
    have hpm : pay a r y.toNat ≤ 100000000000000000 := by
      have := (Plain.upq_bd (a * 1000000000) _ (by omega) (Plain.dsum_pos r r1 r2 y.toNat (by omega))).2
      unfold pay; omega
    change Plain.upq (a * r) 1000 ≤ pay a r y.toNat at he
    unfold code at h
    unfold Plans
    rw [hpl, hpv]
    unfold plan
    have bb := fun k => bal_bd (pay a r y.toNat) r a (by omega) r1 (by omega) he k
    generalize pay a r y.toNat = p at *
    cases hf : Plain.firstYes (done p r a) 121 0 with
    | none => rw [hf] at h; exact absurd h (by decide)
    | some K =>
      obtain ⟨q1, q2, q3, q4⟩ := Plain.firstYes_some _ _ _ _ hf
      show ∃ B : Nat → Int, 0 ≤ r ∧ r ≤ 200 ∧ 0 ≤ p ∧ p ≤ 100000000000000000 ∧ payC a r y = 0 ∧ B 0 = a ∧ (∀ k, 0 ≤ B k ∧ B k ≤ 100000000) ∧ B (pays p r a K).length = 0 ∧
        ∀ k, k < (pays p r a K).length → 1 ≤ (pays p r a K).getD k 0 ∧ (pays p r a K).getD k 0 ≤ p ∧ (k + 1 < (pays p r a K).length → (pays p r a K).getD k 0 = p) ∧ B (k + 1) = B k + Plain.upq (B k * r) 1000 - (pays p r a K).getD k 0
      rw [pays_length]
      refine ⟨bal p r a, r1, r2, by omega, hpm, hpc, rfl, fun k => ⟨(bb k).1, by have := (bb k).2; omega⟩, ?_, fun k hk => ?_⟩
      · have h1 : bal p r a K ≤ 0 := by simpa [done] using q1
        have h2 := (bb K).1
        omega
      · rw [pays_get p r a K k hk]
        have hpos : 0 < bal p r a k := by simpa [done] using q4 k (by omega) hk
        have hu := (Plain.upq_bd (bal p r a k * r) 1000 (Int.mul_nonneg (by omega) r1) (by omega)).1
        have hnb : nb r (bal p r a k) = bal p r a k + Plain.upq (bal p r a k * r) 1000 := rfl
        have hs : bal p r a (k + 1) = nb r (bal p r a k) - min p (nb r (bal p r a k)) := rfl
        refine ⟨by omega, by omega, fun hk2 => ?_, by rw [hs, hnb]⟩
        have hpos2 : 0 < bal p r a (k + 1) := by simpa [done] using q4 (k + 1) (by omega) hk2
        omega
  · rw [if_neg hl] at h; exact absurd h (by decide)

theorem specLoanPayment_any (a r y : Int) (w : World) : Calls Try.prog 49 #[.int .i64 a, .int .i64 r, .int .i64 y] w fun e w' => e = .returned (.tuple #[.int .i64 (payV a r y), .int .i64 (payC a r y)]) ∧ Below w.heap.size w w' := by
  by_cases hl : isLoan a r y = true
  · have hb : 1 ≤ a ∧ a ≤ 100000000 ∧ 0 ≤ r ∧ r ≤ 200 ∧ 1 ≤ y ∧ y ≤ 60 := by simpa [isLoan] using hl
    obtain ⟨a1, a2, r1, r2, y1, y2⟩ := hb
    have V : Hid (payV a r y = Plain.upq (a * 1000000000) (Plain.dsum r 1 y.toNat) ∧ payC a r y = 0) := by show _ ∧ _; unfold payV payC; rw [if_pos hl, if_pos hl]; exact ⟨rfl, rfl⟩
    clear hl
    go_enter Try.func49, Try.ntmps49
    go_wp2_with (first
      | (go_at_call 65; refine (Base.l01In_yes _ _ _ _ (by omega) (by omega)).mono ?_; rintro e w' ⟨rfl, rfl⟩)
      | (go_at_call 65; refine (Base.l01In_no _ _ _ _ (by omega)).mono ?_; rintro e w' ⟨rfl, rfl⟩)
      | (go_at_call 63; refine (Base.inRange_yes _ _ _ _ (by omega) (by omega)).mono ?_; rintro e w' ⟨rfl, rfl⟩)
      | (go_at_call 63; refine (Base.inRange_no _ _ _ _ (by omega)).mono ?_; rintro e w' ⟨rfl, rfl⟩)
      | (go_at_call 70; refine (Base.spec_l01Money_yes _ _ (by omega) (by omega)).mono ?_; rintro e w' ⟨rfl, rfl⟩)
      | (go_at_call 70; refine (Base.spec_l01Money_no _ _ (by omega)).mono ?_; rintro e w' ⟨rfl, rfl⟩)
      | (go_at_call 68; refine (Base.impl_isMoney_yes _ _ (by omega) (by omega)).mono ?_; rintro e w' ⟨rfl, rfl⟩)
      | (go_at_call 68; refine (Base.impl_isMoney_no _ _ (by omega)).mono ?_; rintro e w' ⟨rfl, rfl⟩)
      | (go_at_call 79; refine (Base.spec_l02Month_yes _ _ (by omega) (by omega)).mono ?_; rintro e w' ⟨rfl, rfl⟩)
      | (go_at_call 79; refine (Base.spec_l02Month_no _ _ (by omega)).mono ?_; rintro e w' ⟨rfl, rfl⟩)
      | (go_at_call 78; refine (Base.impl_isMonth_yes _ _ (by omega) (by omega)).mono ?_; rintro e w' ⟨rfl, rfl⟩)
      | (go_at_call 78; refine (Base.impl_isMonth_no _ _ (by omega)).mono ?_; rintro e w' ⟨rfl, rfl⟩)
      | (go_at_call 90; refine (Base.spec_l04Rate_yes _ _ (by omega) (by omega)).mono ?_; rintro e w' ⟨rfl, rfl⟩)
      | (go_at_call 90; refine (Base.spec_l04Rate_no _ _ (by omega)).mono ?_; rintro e w' ⟨rfl, rfl⟩)
      | (go_at_call 89; refine (Base.impl_isRate_yes _ _ (by omega) (by omega)).mono ?_; rintro e w' ⟨rfl, rfl⟩)
      | (go_at_call 89; refine (Base.impl_isRate_no _ _ (by omega)).mono ?_; rintro e w' ⟨rfl, rfl⟩)
      | (go_at_call 84; refine (Base.impl_isYears_yes _ _ (by omega) (by omega)).mono ?_; rintro e w' ⟨rfl, rfl⟩)
      | (go_at_call 84; refine (Base.impl_isYears_no _ _ (by omega)).mono ?_; rintro e w' ⟨rfl, rfl⟩)
      | (go_at_call 86; refine (Base.spec_l04Amount_yes _ _ (by omega) (by omega)).mono ?_; rintro e w' ⟨rfl, rfl⟩)
      | (go_at_call 86; refine (Base.spec_l04Amount_no _ _ (by omega)).mono ?_; rintro e w' ⟨rfl, rfl⟩)
      | (go_at_call 83; refine (Base.impl_isAmount_yes _ _ (by omega) (by omega)).mono ?_; rintro e w' ⟨rfl, rfl⟩)
      | (go_at_call 83; refine (Base.impl_isAmount_no _ _ (by omega)).mono ?_; rintro e w' ⟨rfl, rfl⟩)
      | (go_at_call 94; refine (Base.spec_l04Loan_yes _ _ _ _ (by omega) (by omega) (by omega) (by omega) (by omega) (by omega)).mono ?_; rintro e w' ⟨rfl, rfl⟩)
      | (go_at_call 94; refine (Base.spec_l04Loan_no _ _ _ _ (by omega)).mono ?_; rintro e w' ⟨rfl, rfl⟩)
      | (go_at_call 92; refine (Base.impl_isLoan_yes _ _ _ _ (by omega) (by omega) (by omega) (by omega) (by omega) (by omega)).mono ?_; rintro e w' ⟨rfl, rfl⟩)
      | (go_at_call 92; refine (Base.impl_isLoan_no _ _ _ _ (by omega)).mono ?_; rintro e w' ⟨rfl, rfl⟩)
      | (go_at_call 95; refine (LoanPlans.l04Payment_any _ _ _ _ (by omega) (by omega) (by omega) (by omega) (by omega) (by omega)).mono ?_; rintro e w' ⟨rfl, hb1⟩))
    go_ret2
    exact ⟨Base.ret_ii V.out.1.symm V.out.2.symm, hb1⟩
  · have hb : ¬ (1 ≤ a ∧ a ≤ 100000000 ∧ 0 ≤ r ∧ r ≤ 200 ∧ 1 ≤ y ∧ y ≤ 60) := by simpa [isLoan] using hl
    have hb' : a < 1 ∨ 100000000 < a ∨ r < 0 ∨ 200 < r ∨ y < 1 ∨ 60 < y := by omega
    have V : Hid (payV a r y = 0 ∧ payC a r y = 2) := by show _ ∧ _; unfold payV payC; rw [if_neg hl, if_neg hl]; exact ⟨rfl, rfl⟩
    clear hl hb
    go_enter Try.func49, Try.ntmps49
    go_wp2_with (first
      | (go_at_call 65; refine (Base.l01In_yes _ _ _ _ (by omega) (by omega)).mono ?_; rintro e w' ⟨rfl, rfl⟩)
      | (go_at_call 65; refine (Base.l01In_no _ _ _ _ (by omega)).mono ?_; rintro e w' ⟨rfl, rfl⟩)
      | (go_at_call 63; refine (Base.inRange_yes _ _ _ _ (by omega) (by omega)).mono ?_; rintro e w' ⟨rfl, rfl⟩)
      | (go_at_call 63; refine (Base.inRange_no _ _ _ _ (by omega)).mono ?_; rintro e w' ⟨rfl, rfl⟩)
      | (go_at_call 70; refine (Base.spec_l01Money_yes _ _ (by omega) (by omega)).mono ?_; rintro e w' ⟨rfl, rfl⟩)
      | (go_at_call 70; refine (Base.spec_l01Money_no _ _ (by omega)).mono ?_; rintro e w' ⟨rfl, rfl⟩)
      | (go_at_call 68; refine (Base.impl_isMoney_yes _ _ (by omega) (by omega)).mono ?_; rintro e w' ⟨rfl, rfl⟩)
      | (go_at_call 68; refine (Base.impl_isMoney_no _ _ (by omega)).mono ?_; rintro e w' ⟨rfl, rfl⟩)
      | (go_at_call 79; refine (Base.spec_l02Month_yes _ _ (by omega) (by omega)).mono ?_; rintro e w' ⟨rfl, rfl⟩)
      | (go_at_call 79; refine (Base.spec_l02Month_no _ _ (by omega)).mono ?_; rintro e w' ⟨rfl, rfl⟩)
      | (go_at_call 78; refine (Base.impl_isMonth_yes _ _ (by omega) (by omega)).mono ?_; rintro e w' ⟨rfl, rfl⟩)
      | (go_at_call 78; refine (Base.impl_isMonth_no _ _ (by omega)).mono ?_; rintro e w' ⟨rfl, rfl⟩)
      | (go_at_call 90; refine (Base.spec_l04Rate_yes _ _ (by omega) (by omega)).mono ?_; rintro e w' ⟨rfl, rfl⟩)
      | (go_at_call 90; refine (Base.spec_l04Rate_no _ _ (by omega)).mono ?_; rintro e w' ⟨rfl, rfl⟩)
      | (go_at_call 89; refine (Base.impl_isRate_yes _ _ (by omega) (by omega)).mono ?_; rintro e w' ⟨rfl, rfl⟩)
      | (go_at_call 89; refine (Base.impl_isRate_no _ _ (by omega)).mono ?_; rintro e w' ⟨rfl, rfl⟩)
      | (go_at_call 84; refine (Base.impl_isYears_yes _ _ (by omega) (by omega)).mono ?_; rintro e w' ⟨rfl, rfl⟩)
      | (go_at_call 84; refine (Base.impl_isYears_no _ _ (by omega)).mono ?_; rintro e w' ⟨rfl, rfl⟩)
      | (go_at_call 86; refine (Base.spec_l04Amount_yes _ _ (by omega) (by omega)).mono ?_; rintro e w' ⟨rfl, rfl⟩)
      | (go_at_call 86; refine (Base.spec_l04Amount_no _ _ (by omega)).mono ?_; rintro e w' ⟨rfl, rfl⟩)
      | (go_at_call 83; refine (Base.impl_isAmount_yes _ _ (by omega) (by omega)).mono ?_; rintro e w' ⟨rfl, rfl⟩)
      | (go_at_call 83; refine (Base.impl_isAmount_no _ _ (by omega)).mono ?_; rintro e w' ⟨rfl, rfl⟩)
      | (go_at_call 94; refine (Base.spec_l04Loan_yes _ _ _ _ (by omega) (by omega) (by omega) (by omega) (by omega) (by omega)).mono ?_; rintro e w' ⟨rfl, rfl⟩)
      | (go_at_call 94; refine (Base.spec_l04Loan_no _ _ _ _ (by omega)).mono ?_; rintro e w' ⟨rfl, rfl⟩)
      | (go_at_call 92; refine (Base.impl_isLoan_yes _ _ _ _ (by omega) (by omega) (by omega) (by omega) (by omega) (by omega)).mono ?_; rintro e w' ⟨rfl, rfl⟩)
      | (go_at_call 92; refine (Base.impl_isLoan_no _ _ _ _ (by omega)).mono ?_; rintro e w' ⟨rfl, rfl⟩)
     )
    go_ret2
    exact ⟨Base.ret_ii V.out.1.symm V.out.2.symm, Below.refl _ _⟩
theorem implLoanPayment_any (a r y : Int) (w : World) : Calls Try.prog 48 #[.int .i64 a, .int .i64 r, .int .i64 y] w fun e w' => e = .returned (.tuple #[.int .i64 (payV a r y), .int .i64 (payC a r y)]) ∧ Below w.heap.size w w' := by
  by_cases hl : isLoan a r y = true
  · have hb : 1 ≤ a ∧ a ≤ 100000000 ∧ 0 ≤ r ∧ r ≤ 200 ∧ 1 ≤ y ∧ y ≤ 60 := by simpa [isLoan] using hl
    obtain ⟨a1, a2, r1, r2, y1, y2⟩ := hb
    have V : Hid (payV a r y = Plain.upq (a * 1000000000) (Plain.dsum r 1 y.toNat) ∧ payC a r y = 0) := by show _ ∧ _; unfold payV payC; rw [if_pos hl, if_pos hl]; exact ⟨rfl, rfl⟩
    clear hl
    go_enter Try.func48, Try.ntmps48
    go_wp2_with (first
      | (go_at_call 65; refine (Base.l01In_yes _ _ _ _ (by omega) (by omega)).mono ?_; rintro e w' ⟨rfl, rfl⟩)
      | (go_at_call 65; refine (Base.l01In_no _ _ _ _ (by omega)).mono ?_; rintro e w' ⟨rfl, rfl⟩)
      | (go_at_call 63; refine (Base.inRange_yes _ _ _ _ (by omega) (by omega)).mono ?_; rintro e w' ⟨rfl, rfl⟩)
      | (go_at_call 63; refine (Base.inRange_no _ _ _ _ (by omega)).mono ?_; rintro e w' ⟨rfl, rfl⟩)
      | (go_at_call 70; refine (Base.spec_l01Money_yes _ _ (by omega) (by omega)).mono ?_; rintro e w' ⟨rfl, rfl⟩)
      | (go_at_call 70; refine (Base.spec_l01Money_no _ _ (by omega)).mono ?_; rintro e w' ⟨rfl, rfl⟩)
      | (go_at_call 68; refine (Base.impl_isMoney_yes _ _ (by omega) (by omega)).mono ?_; rintro e w' ⟨rfl, rfl⟩)
      | (go_at_call 68; refine (Base.impl_isMoney_no _ _ (by omega)).mono ?_; rintro e w' ⟨rfl, rfl⟩)
      | (go_at_call 79; refine (Base.spec_l02Month_yes _ _ (by omega) (by omega)).mono ?_; rintro e w' ⟨rfl, rfl⟩)
      | (go_at_call 79; refine (Base.spec_l02Month_no _ _ (by omega)).mono ?_; rintro e w' ⟨rfl, rfl⟩)
      | (go_at_call 78; refine (Base.impl_isMonth_yes _ _ (by omega) (by omega)).mono ?_; rintro e w' ⟨rfl, rfl⟩)
      | (go_at_call 78; refine (Base.impl_isMonth_no _ _ (by omega)).mono ?_; rintro e w' ⟨rfl, rfl⟩)
      | (go_at_call 90; refine (Base.spec_l04Rate_yes _ _ (by omega) (by omega)).mono ?_; rintro e w' ⟨rfl, rfl⟩)
      | (go_at_call 90; refine (Base.spec_l04Rate_no _ _ (by omega)).mono ?_; rintro e w' ⟨rfl, rfl⟩)
      | (go_at_call 89; refine (Base.impl_isRate_yes _ _ (by omega) (by omega)).mono ?_; rintro e w' ⟨rfl, rfl⟩)
      | (go_at_call 89; refine (Base.impl_isRate_no _ _ (by omega)).mono ?_; rintro e w' ⟨rfl, rfl⟩)
      | (go_at_call 84; refine (Base.impl_isYears_yes _ _ (by omega) (by omega)).mono ?_; rintro e w' ⟨rfl, rfl⟩)
      | (go_at_call 84; refine (Base.impl_isYears_no _ _ (by omega)).mono ?_; rintro e w' ⟨rfl, rfl⟩)
      | (go_at_call 86; refine (Base.spec_l04Amount_yes _ _ (by omega) (by omega)).mono ?_; rintro e w' ⟨rfl, rfl⟩)
      | (go_at_call 86; refine (Base.spec_l04Amount_no _ _ (by omega)).mono ?_; rintro e w' ⟨rfl, rfl⟩)
      | (go_at_call 83; refine (Base.impl_isAmount_yes _ _ (by omega) (by omega)).mono ?_; rintro e w' ⟨rfl, rfl⟩)
      | (go_at_call 83; refine (Base.impl_isAmount_no _ _ (by omega)).mono ?_; rintro e w' ⟨rfl, rfl⟩)
      | (go_at_call 94; refine (Base.spec_l04Loan_yes _ _ _ _ (by omega) (by omega) (by omega) (by omega) (by omega) (by omega)).mono ?_; rintro e w' ⟨rfl, rfl⟩)
      | (go_at_call 94; refine (Base.spec_l04Loan_no _ _ _ _ (by omega)).mono ?_; rintro e w' ⟨rfl, rfl⟩)
      | (go_at_call 92; refine (Base.impl_isLoan_yes _ _ _ _ (by omega) (by omega) (by omega) (by omega) (by omega) (by omega)).mono ?_; rintro e w' ⟨rfl, rfl⟩)
      | (go_at_call 92; refine (Base.impl_isLoan_no _ _ _ _ (by omega)).mono ?_; rintro e w' ⟨rfl, rfl⟩)
      | (go_at_call 93; refine (Discs.loanPayment_any _ _ _ _ (by omega) (by omega) (by omega) (by omega) (by omega) (by omega)).mono ?_; rintro e w' ⟨rfl, hb1⟩))
    go_ret2
    exact ⟨Base.ret_ii V.out.1.symm V.out.2.symm, hb1⟩
  · have hb : ¬ (1 ≤ a ∧ a ≤ 100000000 ∧ 0 ≤ r ∧ r ≤ 200 ∧ 1 ≤ y ∧ y ≤ 60) := by simpa [isLoan] using hl
    have hb' : a < 1 ∨ 100000000 < a ∨ r < 0 ∨ 200 < r ∨ y < 1 ∨ 60 < y := by omega
    have V : Hid (payV a r y = 0 ∧ payC a r y = 2) := by show _ ∧ _; unfold payV payC; rw [if_neg hl, if_neg hl]; exact ⟨rfl, rfl⟩
    clear hl hb
    go_enter Try.func48, Try.ntmps48
    go_wp2_with (first
      | (go_at_call 65; refine (Base.l01In_yes _ _ _ _ (by omega) (by omega)).mono ?_; rintro e w' ⟨rfl, rfl⟩)
      | (go_at_call 65; refine (Base.l01In_no _ _ _ _ (by omega)).mono ?_; rintro e w' ⟨rfl, rfl⟩)
      | (go_at_call 63; refine (Base.inRange_yes _ _ _ _ (by omega) (by omega)).mono ?_; rintro e w' ⟨rfl, rfl⟩)
      | (go_at_call 63; refine (Base.inRange_no _ _ _ _ (by omega)).mono ?_; rintro e w' ⟨rfl, rfl⟩)
      | (go_at_call 70; refine (Base.spec_l01Money_yes _ _ (by omega) (by omega)).mono ?_; rintro e w' ⟨rfl, rfl⟩)
      | (go_at_call 70; refine (Base.spec_l01Money_no _ _ (by omega)).mono ?_; rintro e w' ⟨rfl, rfl⟩)
      | (go_at_call 68; refine (Base.impl_isMoney_yes _ _ (by omega) (by omega)).mono ?_; rintro e w' ⟨rfl, rfl⟩)
      | (go_at_call 68; refine (Base.impl_isMoney_no _ _ (by omega)).mono ?_; rintro e w' ⟨rfl, rfl⟩)
      | (go_at_call 79; refine (Base.spec_l02Month_yes _ _ (by omega) (by omega)).mono ?_; rintro e w' ⟨rfl, rfl⟩)
      | (go_at_call 79; refine (Base.spec_l02Month_no _ _ (by omega)).mono ?_; rintro e w' ⟨rfl, rfl⟩)
      | (go_at_call 78; refine (Base.impl_isMonth_yes _ _ (by omega) (by omega)).mono ?_; rintro e w' ⟨rfl, rfl⟩)
      | (go_at_call 78; refine (Base.impl_isMonth_no _ _ (by omega)).mono ?_; rintro e w' ⟨rfl, rfl⟩)
      | (go_at_call 90; refine (Base.spec_l04Rate_yes _ _ (by omega) (by omega)).mono ?_; rintro e w' ⟨rfl, rfl⟩)
      | (go_at_call 90; refine (Base.spec_l04Rate_no _ _ (by omega)).mono ?_; rintro e w' ⟨rfl, rfl⟩)
      | (go_at_call 89; refine (Base.impl_isRate_yes _ _ (by omega) (by omega)).mono ?_; rintro e w' ⟨rfl, rfl⟩)
      | (go_at_call 89; refine (Base.impl_isRate_no _ _ (by omega)).mono ?_; rintro e w' ⟨rfl, rfl⟩)
      | (go_at_call 84; refine (Base.impl_isYears_yes _ _ (by omega) (by omega)).mono ?_; rintro e w' ⟨rfl, rfl⟩)
      | (go_at_call 84; refine (Base.impl_isYears_no _ _ (by omega)).mono ?_; rintro e w' ⟨rfl, rfl⟩)
      | (go_at_call 86; refine (Base.spec_l04Amount_yes _ _ (by omega) (by omega)).mono ?_; rintro e w' ⟨rfl, rfl⟩)
      | (go_at_call 86; refine (Base.spec_l04Amount_no _ _ (by omega)).mono ?_; rintro e w' ⟨rfl, rfl⟩)
      | (go_at_call 83; refine (Base.impl_isAmount_yes _ _ (by omega) (by omega)).mono ?_; rintro e w' ⟨rfl, rfl⟩)
      | (go_at_call 83; refine (Base.impl_isAmount_no _ _ (by omega)).mono ?_; rintro e w' ⟨rfl, rfl⟩)
      | (go_at_call 94; refine (Base.spec_l04Loan_yes _ _ _ _ (by omega) (by omega) (by omega) (by omega) (by omega) (by omega)).mono ?_; rintro e w' ⟨rfl, rfl⟩)
      | (go_at_call 94; refine (Base.spec_l04Loan_no _ _ _ _ (by omega)).mono ?_; rintro e w' ⟨rfl, rfl⟩)
      | (go_at_call 92; refine (Base.impl_isLoan_yes _ _ _ _ (by omega) (by omega) (by omega) (by omega) (by omega) (by omega)).mono ?_; rintro e w' ⟨rfl, rfl⟩)
      | (go_at_call 92; refine (Base.impl_isLoan_no _ _ _ _ (by omega)).mono ?_; rintro e w' ⟨rfl, rfl⟩)
     )
    go_ret2
    exact ⟨Base.ret_ii V.out.1.symm V.out.2.symm, Below.refl _ _⟩
end Go.Proofs.Ytdafgpikgpobbaa.LoanLaw
