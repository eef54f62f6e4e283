/-
  Contracts of GrowAmount, DoublingYears and RateBetween of both packages, for all arguments; what the law on growth asks.
  Conditions: none.
-/
import Derived.Test.YtdafgpikgpobbaaSearches
namespace Go.Proofs.Ytdafgpikgpobbaa.Growths
open Go.RowKit Searches
set_option linter.unusedVariables false

def growOk (a r y : Int) : Bool := decide (0 ≤ a ∧ a ≤ 1000000000 ∧ 0 ≤ r ∧ r ≤ 200 ∧ 0 ≤ y ∧ y ≤ 120)
def growV (a r y : Int) : Int := if growOk a r y then (if Plain.gc a r y.toNat ≤ 1000000000000 then Plain.gc a r y.toNat else 0) else 0
def growC (a r y : Int) : Int := if growOk a r y then (if Plain.gc a r y.toNat ≤ 1000000000000 then 0 else 3) else 2
def dblV (x : Int) : Int := if 0 ≤ x ∧ x ≤ 200 then Plain.numOf (Plain.firstYes (dbl x) 121 0) else 0
def dblC (x : Int) : Int := if 0 ≤ x ∧ x ≤ 200 then Plain.codeOf (Plain.firstYes (dbl x) 121 0) else 2
def rbOk (a l y : Int) : Bool := decide (0 ≤ a ∧ a ≤ 1000000000 ∧ 0 ≤ l ∧ l ≤ 1000000000 ∧ 0 ≤ y ∧ y ≤ 120)
def rbV (a l y : Int) : Int := if rbOk a l y then Plain.numOf (Plain.firstYes (rateB a l y.toNat) 201 0) else 0
def rbC (a l y : Int) : Int := if rbOk a l y then Plain.codeOf (Plain.firstYes (rateB a l y.toNat) 201 0) else 2

theorem grow_yes {a r y : Int} (h : growOk a r y = true) (g : Plain.gc a r y.toNat ≤ 1000000000000) : growV a r y = Plain.gc a r y.toNat ∧ growC a r y = 0 := by
  unfold growV growC; rw [h, if_pos rfl, if_pos rfl, if_pos g, if_pos g]; exact ⟨rfl, rfl⟩
theorem grow_limit {a r y : Int} (h : growOk a r y = true) (g : ¬ Plain.gc a r y.toNat ≤ 1000000000000) : growV a r y = 0 ∧ growC a r y = 3 := by
  unfold growV growC; rw [h, if_pos rfl, if_pos rfl, if_neg g, if_neg g]; exact ⟨rfl, rfl⟩
theorem grow_out {a r y : Int} (h : ¬ growOk a r y = true) : growV a r y = 0 ∧ growC a r y = 2 := by
  unfold growV growC; rw [if_neg h, if_neg h]; exact ⟨rfl, rfl⟩

/-- The year before an amount has doubled it had not; and the rate below the least one is not enough. -/
theorem dbl_before (x : Int) (h : dblC x = 0) (g : 0 < dblV x) : growC 1000000 x (dblV x - 1) = 0 ∧ growV 1000000 x (dblV x - 1) < 2000000 ∧ dblV x ≤ 121 := by
  unfold dblC at h
  unfold dblV at g ⊢
  by_cases hx : 0 ≤ x ∧ x ≤ 200
  · rw [if_pos hx] at h g ⊢
    cases hf : Plain.firstYes (dbl x) 121 0 with
    | none => rw [hf] at h; exact absurd h (by decide)
    | some j =>
      rw [hf] at g
      obtain ⟨q1, q2, q3, q4⟩ := Plain.firstYes_some _ _ _ _ hf
      have g' : 0 < (j : Int) := g
      have hp := q4 (j - 1) (by omega) (by omega)
      have hgc : Plain.gc 1000000 x (j - 1) < 2000000 := by simpa [dbl] using hp
      show growC 1000000 x ((j : Int) - 1) = 0 ∧ growV 1000000 x ((j : Int) - 1) < 2000000 ∧ (j : Int) ≤ 121
      have ht : ((j : Int) - 1).toNat = j - 1 := by omega
      have := grow_yes (a := 1000000) (r := x) (y := (j : Int) - 1) (by unfold growOk; exact decide_eq_true (by omega)) (by rw [ht]; omega)
      rw [this.1, this.2, ht]
      exact ⟨rfl, hgc, by omega⟩
  · rw [if_neg hx] at h; exact absurd h (by decide)
theorem rb_before (a l y : Int) (h : rbC a l y = 0) (g : ¬ rbV a l y = 0) : growC a (rbV a l y - 1) y = 0 ∧ growV a (rbV a l y - 1) y < l ∧ 0 < rbV a l y ∧ rbV a l y ≤ 201 := by
  unfold rbC at h
  unfold rbV at g ⊢
  by_cases hx : rbOk a l y = true
  · rw [if_pos hx] at h g ⊢
    have hb : 0 ≤ a ∧ a ≤ 1000000000 ∧ 0 ≤ l ∧ l ≤ 1000000000 ∧ 0 ≤ y ∧ y ≤ 120 := by simpa [rbOk] using hx
    cases hf : Plain.firstYes (rateB a l y.toNat) 201 0 with
    | none => rw [hf] at h; exact absurd h (by decide)
    | some j =>
      rw [hf] at g
      obtain ⟨q1, q2, q3, q4⟩ := Plain.firstYes_some _ _ _ _ hf
      have g' : ¬ (j : Int) = 0 := g
      have hp := q4 (j - 1) (by omega) (by omega)
      have hc : ((j - 1 : Nat) : Int) = (j : Int) - 1 := by omega
      have hgc : Plain.gc a ((j : Int) - 1) y.toNat < l := by rw [← hc]; simpa [rateB] using hp
      show growC a ((j : Int) - 1) y = 0 ∧ growV a ((j : Int) - 1) y < l ∧ 0 < (j : Int) ∧ (j : Int) ≤ 201
      have := grow_yes (a := a) (r := (j : Int) - 1) (y := y) (by unfold growOk; exact decide_eq_true (by omega)) (by omega)
      rw [this.1, this.2]
      exact ⟨rfl, hgc, by omega, by omega⟩
  · rw [if_neg hx] at h; exact absurd h (by decide)

theorem specGrowAmount_any (a r y : Int) (w : World) : Calls Try.prog 41 #[.int .i64 a, .int .i64 r, .int .i64 y] w fun e w' => e = .returned (.tuple #[.int .i64 (growV a r y), .int .i64 (growC a r y)]) ∧ w = w' := by
  by_cases hc : growOk a r y = true
  · have hk : 0 ≤ a ∧ a ≤ 1000000000 ∧ 0 ≤ r ∧ r ≤ 200 ∧ 0 ≤ y ∧ y ≤ 120 := by simpa [growOk] using hc
    obtain ⟨k1, k2, k3, k4, k5, k6⟩ := hk
    obtain ⟨g1, g2⟩ := Plain.gc_bd a r k1 (by omega) k3 k4 y.toNat
    by_cases hg : Plain.gc a r y.toNat ≤ 1000000000000
    · have V := Lib.hid (grow_yes hc hg)
      clear hc
      go_enter Try.func41, Try.ntmps41
      go_wp2_with (first
      | (go_at_call 65; refine (Base.l01In_yes _ _ _ _ (by omega) (by omega)).mono ?_; rintro e w' ⟨rfl, rfl⟩)
      | (go_at_call 65; refine (Base.l01In_no _ _ _ _ (by omega)).mono ?_; rintro e w' ⟨rfl, rfl⟩)
      | (go_at_call 63; refine (Base.inRange_yes _ _ _ _ (by omega) (by omega)).mono ?_; rintro e w' ⟨rfl, rfl⟩)
      | (go_at_call 63; refine (Base.inRange_no _ _ _ _ (by omega)).mono ?_; rintro e w' ⟨rfl, rfl⟩)
      | (go_at_call 70; refine (Base.spec_l01Money_yes _ _ (by omega) (by omega)).mono ?_; rintro e w' ⟨rfl, rfl⟩)
      | (go_at_call 70; refine (Base.spec_l01Money_no _ _ (by omega)).mono ?_; rintro e w' ⟨rfl, rfl⟩)
      | (go_at_call 68; refine (Base.impl_isMoney_yes _ _ (by omega) (by omega)).mono ?_; rintro e w' ⟨rfl, rfl⟩)
      | (go_at_call 68; refine (Base.impl_isMoney_no _ _ (by omega)).mono ?_; rintro e w' ⟨rfl, rfl⟩)
      | (go_at_call 79; refine (Base.spec_l02Month_yes _ _ (by omega) (by omega)).mono ?_; rintro e w' ⟨rfl, rfl⟩)
      | (go_at_call 79; refine (Base.spec_l02Month_no _ _ (by omega)).mono ?_; rintro e w' ⟨rfl, rfl⟩)
      | (go_at_call 78; refine (Base.impl_isMonth_yes _ _ (by omega) (by omega)).mono ?_; rintro e w' ⟨rfl, rfl⟩)
      | (go_at_call 78; refine (Base.impl_isMonth_no _ _ (by omega)).mono ?_; rintro e w' ⟨rfl, rfl⟩)
      | (go_at_call 90; refine (Base.spec_l04Rate_yes _ _ (by omega) (by omega)).mono ?_; rintro e w' ⟨rfl, rfl⟩)
      | (go_at_call 90; refine (Base.spec_l04Rate_no _ _ (by omega)).mono ?_; rintro e w' ⟨rfl, rfl⟩)
      | (go_at_call 89; refine (Base.impl_isRate_yes _ _ (by omega) (by omega)).mono ?_; rintro e w' ⟨rfl, rfl⟩)
      | (go_at_call 89; refine (Base.impl_isRate_no _ _ (by omega)).mono ?_; rintro e w' ⟨rfl, rfl⟩)
      | (go_at_call 84; refine (Base.impl_isYears_yes _ _ (by omega) (by omega)).mono ?_; rintro e w' ⟨rfl, rfl⟩)
      | (go_at_call 84; refine (Base.impl_isYears_no _ _ (by omega)).mono ?_; rintro e w' ⟨rfl, rfl⟩)
      | (go_at_call 86; refine (Base.spec_l04Amount_yes _ _ (by omega) (by omega)).mono ?_; rintro e w' ⟨rfl, rfl⟩)
      | (go_at_call 86; refine (Base.spec_l04Amount_no _ _ (by omega)).mono ?_; rintro e w' ⟨rfl, rfl⟩)
      | (go_at_call 83; refine (Base.impl_isAmount_yes _ _ (by omega) (by omega)).mono ?_; rintro e w' ⟨rfl, rfl⟩)
      | (go_at_call 83; refine (Base.impl_isAmount_no _ _ (by omega)).mono ?_; rintro e w' ⟨rfl, rfl⟩)
      | (go_at_call 94; refine (Base.spec_l04Loan_yes _ _ _ _ (by omega) (by omega) (by omega) (by omega) (by omega) (by omega)).mono ?_; rintro e w' ⟨rfl, rfl⟩)
      | (go_at_call 94; refine (Base.spec_l04Loan_no _ _ _ _ (by omega)).mono ?_; rintro e w' ⟨rfl, rfl⟩)
      | (go_at_call 92; refine (Base.impl_isLoan_yes _ _ _ _ (by omega) (by omega) (by omega) (by omega) (by omega) (by omega)).mono ?_; rintro e w' ⟨rfl, rfl⟩)
      | (go_at_call 92; refine (Base.impl_isLoan_no _ _ _ _ (by omega)).mono ?_; rintro e w' ⟨rfl, rfl⟩)
      | (go_at_call 87; refine (Interest.l04Grow_any _ _ _ _ (by omega) (by omega) (by omega) (by omega) (by omega) (by omega)).mono ?_; rintro e w' ⟨rfl, rfl⟩)
      | (go_at_call 85; refine (Interest.grown_yes _ _ _ _ (by omega) (by omega) (by omega) (by omega) (by omega) (by omega) (by assumption)).mono ?_; rintro e w' ⟨rfl, rfl⟩)
      | (go_at_call 85; refine (Interest.grown_no _ _ _ _ (by omega) (by omega) (by omega) (by omega) (by omega) (by omega) (by assumption)).mono ?_; rintro e w' ⟨rfl, rfl⟩)
     )
      go_ret2
      exact ⟨Base.ret_ii V.out.1.symm V.out.2.symm, rfl⟩
    · have V := Lib.hid (grow_limit hc hg)
      have hg' : 1000000000000 < Plain.gc a r y.toNat := by omega
      clear hc hg
      go_enter Try.func41, Try.ntmps41
      go_wp2_with (first
      | (go_at_call 65; refine (Base.l01In_yes _ _ _ _ (by omega) (by omega)).mono ?_; rintro e w' ⟨rfl, rfl⟩)
      | (go_at_call 65; refine (Base.l01In_no _ _ _ _ (by omega)).mono ?_; rintro e w' ⟨rfl, rfl⟩)
      | (go_at_call 63; refine (Base.inRange_yes _ _ _ _ (by omega) (by omega)).mono ?_; rintro e w' ⟨rfl, rfl⟩)
      | (go_at_call 63; refine (Base.inRange_no _ _ _ _ (by omega)).mono ?_; rintro e w' ⟨rfl, rfl⟩)
      | (go_at_call 70; refine (Base.spec_l01Money_yes _ _ (by omega) (by omega)).mono ?_; rintro e w' ⟨rfl, rfl⟩)
      | (go_at_call 70; refine (Base.spec_l01Money_no _ _ (by omega)).mono ?_; rintro e w' ⟨rfl, rfl⟩)
      | (go_at_call 68; refine (Base.impl_isMoney_yes _ _ (by omega) (by omega)).mono ?_; rintro e w' ⟨rfl, rfl⟩)
      | (go_at_call 68; refine (Base.impl_isMoney_no _ _ (by omega)).mono ?_; rintro e w' ⟨rfl, rfl⟩)
      | (go_at_call 79; refine (Base.spec_l02Month_yes _ _ (by omega) (by omega)).mono ?_; rintro e w' ⟨rfl, rfl⟩)
      | (go_at_call 79; refine (Base.spec_l02Month_no _ _ (by omega)).mono ?_; rintro e w' ⟨rfl, rfl⟩)
      | (go_at_call 78; refine (Base.impl_isMonth_yes _ _ (by omega) (by omega)).mono ?_; rintro e w' ⟨rfl, rfl⟩)
      | (go_at_call 78; refine (Base.impl_isMonth_no _ _ (by omega)).mono ?_; rintro e w' ⟨rfl, rfl⟩)
      | (go_at_call 90; refine (Base.spec_l04Rate_yes _ _ (by omega) (by omega)).mono ?_; rintro e w' ⟨rfl, rfl⟩)
      | (go_at_call 90; refine (Base.spec_l04Rate_no _ _ (by omega)).mono ?_; rintro e w' ⟨rfl, rfl⟩)
      | (go_at_call 89; refine (Base.impl_isRate_yes _ _ (by omega) (by omega)).mono ?_; rintro e w' ⟨rfl, rfl⟩)
      | (go_at_call 89; refine (Base.impl_isRate_no _ _ (by omega)).mono ?_; rintro e w' ⟨rfl, rfl⟩)
      | (go_at_call 84; refine (Base.impl_isYears_yes _ _ (by omega) (by omega)).mono ?_; rintro e w' ⟨rfl, rfl⟩)
      | (go_at_call 84; refine (Base.impl_isYears_no _ _ (by omega)).mono ?_; rintro e w' ⟨rfl, rfl⟩)
      | (go_at_call 86; refine (Base.spec_l04Amount_yes _ _ (by omega) (by omega)).mono ?_; rintro e w' ⟨rfl, rfl⟩)
      | (go_at_call 86; refine (Base.spec_l04Amount_no _ _ (by omega)).mono ?_; rintro e w' ⟨rfl, rfl⟩)
      | (go_at_call 83; refine (Base.impl_isAmount_yes _ _ (by omega) (by omega)).mono ?_; rintro e w' ⟨rfl, rfl⟩)
      | (go_at_call 83; refine (Base.impl_isAmount_no _ _ (by omega)).mono ?_; rintro e w' ⟨rfl, rfl⟩)
      | (go_at_call 94; refine (Base.spec_l04Loan_yes _ _ _ _ (by omega) (by omega) (by omega) (by omega) (by omega) (by omega)).mono ?_; rintro e w' ⟨rfl, rfl⟩)
      | (go_at_call 94; refine (Base.spec_l04Loan_no _ _ _ _ (by omega)).mono ?_; rintro e w' ⟨rfl, rfl⟩)
      | (go_at_call 92; refine (Base.impl_isLoan_yes _ _ _ _ (by omega) (by omega) (by omega) (by omega) (by omega) (by omega)).mono ?_; rintro e w' ⟨rfl, rfl⟩)
      | (go_at_call 92; refine (Base.impl_isLoan_no _ _ _ _ (by omega)).mono ?_; rintro e w' ⟨rfl, rfl⟩)
      | (go_at_call 87; refine (Interest.l04Grow_any _ _ _ _ (by omega) (by omega) (by omega) (by omega) (by omega) (by omega)).mono ?_; rintro e w' ⟨rfl, rfl⟩)
      | (go_at_call 85; refine (Interest.grown_yes _ _ _ _ (by omega) (by omega) (by omega) (by omega) (by omega) (by omega) (by assumption)).mono ?_; rintro e w' ⟨rfl, rfl⟩)
      | (go_at_call 85; refine (Interest.grown_no _ _ _ _ (by omega) (by omega) (by omega) (by omega) (by omega) (by omega) (by assumption)).mono ?_; rintro e w' ⟨rfl, rfl⟩)
     )
      go_ret2
      exact ⟨Base.ret_ii V.out.1.symm V.out.2.symm, rfl⟩
  · have hk : ¬ (0 ≤ a ∧ a ≤ 1000000000 ∧ 0 ≤ r ∧ r ≤ 200 ∧ 0 ≤ y ∧ y ≤ 120) := by simpa [growOk] using hc
    have V := Lib.hid (grow_out hc)
    clear hc
    rcases (by omega : (a < 0 ∨ 1000000000 < a) ∨ (0 ≤ a ∧ a ≤ 1000000000 ∧ (r < 0 ∨ 200 < r)) ∨ (0 ≤ a ∧ a ≤ 1000000000 ∧ 0 ≤ r ∧ r ≤ 200 ∧ (y < 0 ∨ 120 < y))) with g | ⟨g1, g2, g⟩ | ⟨g1, g2, g3, g4, g⟩
    all_goals
      clear hk
      go_enter Try.func41, Try.ntmps41
      go_wp2_with (first
      | (go_at_call 65; refine (Base.l01In_yes _ _ _ _ (by omega) (by omega)).mono ?_; rintro e w' ⟨rfl, rfl⟩)
      | (go_at_call 65; refine (Base.l01In_no _ _ _ _ (by omega)).mono ?_; rintro e w' ⟨rfl, rfl⟩)
      | (go_at_call 63; refine (Base.inRange_yes _ _ _ _ (by omega) (by omega)).mono ?_; rintro e w' ⟨rfl, rfl⟩)
      | (go_at_call 63; refine (Base.inRange_no _ _ _ _ (by omega)).mono ?_; rintro e w' ⟨rfl, rfl⟩)
      | (go_at_call 70; refine (Base.spec_l01Money_yes _ _ (by omega) (by omega)).mono ?_; rintro e w' ⟨rfl, rfl⟩)
      | (go_at_call 70; refine (Base.spec_l01Money_no _ _ (by omega)).mono ?_; rintro e w' ⟨rfl, rfl⟩)
      | (go_at_call 68; refine (Base.impl_isMoney_yes _ _ (by omega) (by omega)).mono ?_; rintro e w' ⟨rfl, rfl⟩)
      | (go_at_call 68; refine (Base.impl_isMoney_no _ _ (by omega)).mono ?_; rintro e w' ⟨rfl, rfl⟩)
      | (go_at_call 79; refine (Base.spec_l02Month_yes _ _ (by omega) (by omega)).mono ?_; rintro e w' ⟨rfl, rfl⟩)
      | (go_at_call 79; refine (Base.spec_l02Month_no _ _ (by omega)).mono ?_; rintro e w' ⟨rfl, rfl⟩)
      | (go_at_call 78; refine (Base.impl_isMonth_yes _ _ (by omega) (by omega)).mono ?_; rintro e w' ⟨rfl, rfl⟩)
      | (go_at_call 78; refine (Base.impl_isMonth_no _ _ (by omega)).mono ?_; rintro e w' ⟨rfl, rfl⟩)
      | (go_at_call 90; refine (Base.spec_l04Rate_yes _ _ (by omega) (by omega)).mono ?_; rintro e w' ⟨rfl, rfl⟩)
      | (go_at_call 90; refine (Base.spec_l04Rate_no _ _ (by omega)).mono ?_; rintro e w' ⟨rfl, rfl⟩)
      | (go_at_call 89; refine (Base.impl_isRate_yes _ _ (by omega) (by omega)).mono ?_; rintro e w' ⟨rfl, rfl⟩)
      | (go_at_call 89; refine (Base.impl_isRate_no _ _ (by omega)).mono ?_; rintro e w' ⟨rfl, rfl⟩)
      | (go_at_call 84; refine (Base.impl_isYears_yes _ _ (by omega) (by omega)).mono ?_; rintro e w' ⟨rfl, rfl⟩)
      | (go_at_call 84; refine (Base.impl_isYears_no _ _ (by omega)).mono ?_; rintro e w' ⟨rfl, rfl⟩)
      | (go_at_call 86; refine (Base.spec_l04Amount_yes _ _ (by omega) (by omega)).mono ?_; rintro e w' ⟨rfl, rfl⟩)
      | (go_at_call 86; refine (Base.spec_l04Amount_no _ _ (by omega)).mono ?_; rintro e w' ⟨rfl, rfl⟩)
      | (go_at_call 83; refine (Base.impl_isAmount_yes _ _ (by omega) (by omega)).mono ?_; rintro e w' ⟨rfl, rfl⟩)
      | (go_at_call 83; refine (Base.impl_isAmount_no _ _ (by omega)).mono ?_; rintro e w' ⟨rfl, rfl⟩)
      | (go_at_call 94; refine (Base.spec_l04Loan_yes _ _ _ _ (by omega) (by omega) (by omega) (by omega) (by omega) (by omega)).mono ?_; rintro e w' ⟨rfl, rfl⟩)
      | (go_at_call 94; refine (Base.spec_l04Loan_no _ _ _ _ (by omega)).mono ?_; rintro e w' ⟨rfl, rfl⟩)
      | (go_at_call 92; refine (Base.impl_isLoan_yes _ _ _ _ (by omega) (by omega) (by omega) (by omega) (by omega) (by omega)).mono ?_; rintro e w' ⟨rfl, rfl⟩)
      | (go_at_call 92; refine (Base.impl_isLoan_no _ _ _ _ (by omega)).mono ?_; rintro e w' ⟨rfl, rfl⟩)
     )
      go_ret2
      exact ⟨Base.ret_ii V.out.1.symm V.out.2.symm, rfl⟩
theorem specDoublingYears_any (x : Int) (w : World) : Calls Try.prog 44 #[.int .i64 x] w fun e w' => e = .returned (.tuple #[.int .i64 (dblV x), .int .i64 (dblC x)]) ∧ w = w' := by
  by_cases hc : 0 ≤ x ∧ x ≤ 200
  · unfold dblV dblC
    rw [if_pos hc, if_pos hc]
    exact specDoublingYears_in x w hc.1 hc.2
  · have V : Hid (dblV x = 0 ∧ dblC x = 2) := by show _ ∧ _; unfold dblV dblC; rw [if_neg hc, if_neg hc]; exact ⟨rfl, rfl⟩
    have hc' : x < 0 ∨ 200 < x := by omega
    clear hc
    go_enter Try.func44, Try.ntmps44
    go_wp2_with (first
      | (go_at_call 65; refine (Base.l01In_yes _ _ _ _ (by omega) (by omega)).mono ?_; rintro e w' ⟨rfl, rfl⟩)
      | (go_at_call 65; refine (Base.l01In_no _ _ _ _ (by omega)).mono ?_; rintro e w' ⟨rfl, rfl⟩)
      | (go_at_call 63; refine (Base.inRange_yes _ _ _ _ (by omega) (by omega)).mono ?_; rintro e w' ⟨rfl, rfl⟩)
      | (go_at_call 63; refine (Base.inRange_no _ _ _ _ (by omega)).mono ?_; rintro e w' ⟨rfl, rfl⟩)
      | (go_at_call 70; refine (Base.spec_l01Money_yes _ _ (by omega) (by omega)).mono ?_; rintro e w' ⟨rfl, rfl⟩)
      | (go_at_call 70; refine (Base.spec_l01Money_no _ _ (by omega)).mono ?_; rintro e w' ⟨rfl, rfl⟩)
      | (go_at_call 68; refine (Base.impl_isMoney_yes _ _ (by omega) (by omega)).mono ?_; rintro e w' ⟨rfl, rfl⟩)
      | (go_at_call 68; refine (Base.impl_isMoney_no _ _ (by omega)).mono ?_; rintro e w' ⟨rfl, rfl⟩)
      | (go_at_call 79; refine (Base.spec_l02Month_yes _ _ (by omega) (by omega)).mono ?_; rintro e w' ⟨rfl, rfl⟩)
      | (go_at_call 79; refine (Base.spec_l02Month_no _ _ (by omega)).mono ?_; rintro e w' ⟨rfl, rfl⟩)
      | (go_at_call 78; refine (Base.impl_isMonth_yes _ _ (by omega) (by omega)).mono ?_; rintro e w' ⟨rfl, rfl⟩)
      | (go_at_call 78; refine (Base.impl_isMonth_no _ _ (by omega)).mono ?_; rintro e w' ⟨rfl, rfl⟩)
      | (go_at_call 90; refine (Base.spec_l04Rate_yes _ _ (by omega) (by omega)).mono ?_; rintro e w' ⟨rfl, rfl⟩)
      | (go_at_call 90; refine (Base.spec_l04Rate_no _ _ (by omega)).mono ?_; rintro e w' ⟨rfl, rfl⟩)
      | (go_at_call 89; refine (Base.impl_isRate_yes _ _ (by omega) (by omega)).mono ?_; rintro e w' ⟨rfl, rfl⟩)
      | (go_at_call 89; refine (Base.impl_isRate_no _ _ (by omega)).mono ?_; rintro e w' ⟨rfl, rfl⟩)
      | (go_at_call 84; refine (Base.impl_isYears_yes _ _ (by omega) (by omega)).mono ?_; rintro e w' ⟨rfl, rfl⟩)
      | (go_at_call 84; refine (Base.impl_isYears_no _ _ (by omega)).mono ?_; rintro e w' ⟨rfl, rfl⟩)
      | (go_at_call 86; refine (Base.spec_l04Amount_yes _ _ (by omega) (by omega)).mono ?_; rintro e w' ⟨rfl, rfl⟩)
      | (go_at_call 86; refine (Base.spec_l04Amount_no _ _ (by omega)).mono ?_; rintro e w' ⟨rfl, rfl⟩)
      | (go_at_call 83; refine (Base.impl_isAmount_yes _ _ (by omega) (by omega)).mono ?_; rintro e w' ⟨rfl, rfl⟩)
      | (go_at_call 83; refine (Base.impl_isAmount_no _ _ (by omega)).mono ?_; rintro e w' ⟨rfl, rfl⟩)
      | (go_at_call 94; refine (Base.spec_l04Loan_yes _ _ _ _ (by omega) (by omega) (by omega) (by omega) (by omega) (by omega)).mono ?_; rintro e w' ⟨rfl, rfl⟩)
      | (go_at_call 94; refine (Base.spec_l04Loan_no _ _ _ _ (by omega)).mono ?_; rintro e w' ⟨rfl, rfl⟩)
      | (go_at_call 92; refine (Base.impl_isLoan_yes _ _ _ _ (by omega) (by omega) (by omega) (by omega) (by omega) (by omega)).mono ?_; rintro e w' ⟨rfl, rfl⟩)
      | (go_at_call 92; refine (Base.impl_isLoan_no _ _ _ _ (by omega)).mono ?_; rintro e w' ⟨rfl, rfl⟩)
     )
    go_ret2
    exact ⟨Base.ret_ii V.out.1.symm V.out.2.symm, rfl⟩
theorem specRateBetween_any (a l y : Int) (w : World) : Calls Try.prog 38 #[.int .i64 a, .int .i64 l, .int .i64 y] w fun e w' => e = .returned (.tuple #[.int .i64 (rbV a l y), .int .i64 (rbC a l y)]) ∧ w = w' := by
  by_cases hc : rbOk a l y = true
  · have hk : 0 ≤ a ∧ a ≤ 1000000000 ∧ 0 ≤ l ∧ l ≤ 1000000000 ∧ 0 ≤ y ∧ y ≤ 120 := by simpa [rbOk] using hc
    obtain ⟨k1, k2, k3, k4, k5, k6⟩ := hk
    unfold rbV rbC
    rw [if_pos hc, if_pos hc]
    exact specRateBetween_in a l y w k1 k2 k3 k4 k5 k6
  · have hk : ¬ (0 ≤ a ∧ a ≤ 1000000000 ∧ 0 ≤ l ∧ l ≤ 1000000000 ∧ 0 ≤ y ∧ y ≤ 120) := by simpa [rbOk] using hc
    have V : Hid (rbV a l y = 0 ∧ rbC a l y = 2) := by show _ ∧ _; unfold rbV rbC; rw [if_neg hc, if_neg hc]; exact ⟨rfl, rfl⟩
    clear hc
    rcases (by omega : (a < 0 ∨ 1000000000 < a) ∨ (0 ≤ a ∧ a ≤ 1000000000 ∧ (l < 0 ∨ 1000000000 < l)) ∨ (0 ≤ a ∧ a ≤ 1000000000 ∧ 0 ≤ l ∧ l ≤ 1000000000 ∧ (y < 0 ∨ 120 < y))) with g | ⟨g1, g2, g⟩ | ⟨g1, g2, g3, g4, g⟩
    all_goals
      clear hk
      go_enter Try.func38, Try.ntmps38
      go_wp2_with (first
      | (go_at_call 65; refine (Base.l01In_yes _ _ _ _ (by omega) (by omega)).mono ?_; rintro e w' ⟨rfl, rfl⟩)
      | (go_at_call 65; refine (Base.l01In_no _ _ _ _ (by omega)).mono ?_; rintro e w' ⟨rfl, rfl⟩)
      | (go_at_call 63; refine (Base.inRange_yes _ _ _ _ (by omega) (by omega)).mono ?_; rintro e w' ⟨rfl, rfl⟩)
      | (go_at_call 63; refine (Base.inRange_no _ _ _ _ (by omega)).mono ?_; rintro e w' ⟨rfl, rfl⟩)
      | (go_at_call 70; refine (Base.spec_l01Money_yes _ _ (by omega) (by omega)).mono ?_; rintro e w' ⟨rfl, rfl⟩)
      | (go_at_call 70; refine (Base.spec_l01Money_no _ _ (by omega)).mono ?_; rintro e w' ⟨rfl, rfl⟩)
      | (go_at_call 68; refine (Base.impl_isMoney_yes _ _ (by omega) (by omega)).mono ?_; rintro e w' ⟨rfl, rfl⟩)
      | (go_at_call 68; refine (Base.impl_isMoney_no _ _ (by omega)).mono ?_; rintro e w' ⟨rfl, rfl⟩)
      | (go_at_call 79; refine (Base.spec_l02Month_yes _ _ (by omega) (by omega)).mono ?_; rintro e w' ⟨rfl, rfl⟩)
      | (go_at_call 79; refine (Base.spec_l02Month_no _ _ (by omega)).mono ?_; rintro e w' ⟨rfl, rfl⟩)
      | (go_at_call 78; refine (Base.impl_isMonth_yes _ _ (by omega) (by omega)).mono ?_; rintro e w' ⟨rfl, rfl⟩)
      | (go_at_call 78; refine (Base.impl_isMonth_no _ _ (by omega)).mono ?_; rintro e w' ⟨rfl, rfl⟩)
      | (go_at_call 90; refine (Base.spec_l04Rate_yes _ _ (by omega) (by omega)).mono ?_; rintro e w' ⟨rfl, rfl⟩)
      | (go_at_call 90; refine (Base.spec_l04Rate_no _ _ (by omega)).mono ?_; rintro e w' ⟨rfl, rfl⟩)
      | (go_at_call 89; refine (Base.impl_isRate_yes _ _ (by omega) (by omega)).mono ?_; rintro e w' ⟨rfl, rfl⟩)
      | (go_at_call 89; refine (Base.impl_isRate_no _ _ (by omega)).mono ?_; rintro e w' ⟨rfl, rfl⟩)
      | (go_at_call 84; refine (Base.impl_isYears_yes _ _ (by omega) (by omega)).mono ?_; rintro e w' ⟨rfl, rfl⟩)
      | (go_at_call 84; refine (Base.impl_isYears_no _ _ (by omega)).mono ?_; rintro e w' ⟨rfl, rfl⟩)
      | (go_at_call 86; refine (Base.spec_l04Amount_yes _ _ (by omega) (by omega)).mono ?_; rintro e w' ⟨rfl, rfl⟩)
      | (go_at_call 86; refine (Base.spec_l04Amount_no _ _ (by omega)).mono ?_; rintro e w' ⟨rfl, rfl⟩)
      | (go_at_call 83; refine (Base.impl_isAmount_yes _ _ (by omega) (by omega)).mono ?_; rintro e w' ⟨rfl, rfl⟩)
      | (go_at_call 83; refine (Base.impl_isAmount_no _ _ (by omega)).mono ?_; rintro e w' ⟨rfl, rfl⟩)
      | (go_at_call 94; refine (Base.spec_l04Loan_yes _ _ _ _ (by omega) (by omega) (by omega) (by omega) (by omega) (by omega)).mono ?_; rintro e w' ⟨rfl, rfl⟩)
      | (go_at_call 94; refine (Base.spec_l04Loan_no _ _ _ _ (by omega)).mono ?_; rintro e w' ⟨rfl, rfl⟩)
      | (go_at_call 92; refine (Base.impl_isLoan_yes _ _ _ _ (by omega) (by omega) (by omega) (by omega) (by omega) (by omega)).mono ?_; rintro e w' ⟨rfl, rfl⟩)
      | (go_at_call 92; refine (Base.impl_isLoan_no _ _ _ _ (by omega)).mono ?_; rintro e w' ⟨rfl, rfl⟩)
     )
      go_ret2
      exact ⟨Base.ret_ii V.out.1.symm V.out.2.symm, rfl⟩
theorem implGrowAmount_any (a r y : Int) (w : World) : Calls Try.prog 40 #[.int .i64 a, .int .i64 r, .int .i64 y] w fun e w' => e = .returned (.tuple #[.int .i64 (growV a r y), .int .i64 (growC a r y)]) ∧ w = w' := by
  by_cases hc : growOk a r y = true
  · have hk : 0 ≤ a ∧ a ≤ 1000000000 ∧ 0 ≤ r ∧ r ≤ 200 ∧ 0 ≤ y ∧ y ≤ 120 := by simpa [growOk] using hc
    obtain ⟨k1, k2, k3, k4, k5, k6⟩ := hk
    obtain ⟨g1, g2⟩ := Plain.gc_bd a r k1 (by omega) k3 k4 y.toNat
    by_cases hg : Plain.gc a r y.toNat ≤ 1000000000000
    · have V := Lib.hid (grow_yes hc hg)
      clear hc
      go_enter Try.func40, Try.ntmps40
      go_wp2_with (first
      | (go_at_call 65; refine (Base.l01In_yes _ _ _ _ (by omega) (by omega)).mono ?_; rintro e w' ⟨rfl, rfl⟩)
      | (go_at_call 65; refine (Base.l01In_no _ _ _ _ (by omega)).mono ?_; rintro e w' ⟨rfl, rfl⟩)
      | (go_at_call 63; refine (Base.inRange_yes _ _ _ _ (by omega) (by omega)).mono ?_; rintro e w' ⟨rfl, rfl⟩)
      | (go_at_call 63; refine (Base.inRange_no _ _ _ _ (by omega)).mono ?_; rintro e w' ⟨rfl, rfl⟩)
      | (go_at_call 70; refine (Base.spec_l01Money_yes _ _ (by omega) (by omega)).mono ?_; rintro e w' ⟨rfl, rfl⟩)
      | (go_at_call 70; refine (Base.spec_l01Money_no _ _ (by omega)).mono ?_; rintro e w' ⟨rfl, rfl⟩)
      | (go_at_call 68; refine (Base.impl_isMoney_yes _ _ (by omega) (by omega)).mono ?_; rintro e w' ⟨rfl, rfl⟩)
      | (go_at_call 68; refine (Base.impl_isMoney_no _ _ (by omega)).mono ?_; rintro e w' ⟨rfl, rfl⟩)
      | (go_at_call 79; refine (Base.spec_l02Month_yes _ _ (by omega) (by omega)).mono ?_; rintro e w' ⟨rfl, rfl⟩)
      | (go_at_call 79; refine (Base.spec_l02Month_no _ _ (by omega)).mono ?_; rintro e w' ⟨rfl, rfl⟩)
      | (go_at_call 78; refine (Base.impl_isMonth_yes _ _ (by omega) (by omega)).mono ?_; rintro e w' ⟨rfl, rfl⟩)
      | (go_at_call 78; refine (Base.impl_isMonth_no _ _ (by omega)).mono ?_; rintro e w' ⟨rfl, rfl⟩)
      | (go_at_call 90; refine (Base.spec_l04Rate_yes _ _ (by omega) (by omega)).mono ?_; rintro e w' ⟨rfl, rfl⟩)
      | (go_at_call 90; refine (Base.spec_l04Rate_no _ _ (by omega)).mono ?_; rintro e w' ⟨rfl, rfl⟩)
      | (go_at_call 89; refine (Base.impl_isRate_yes _ _ (by omega) (by omega)).mono ?_; rintro e w' ⟨rfl, rfl⟩)
      | (go_at_call 89; refine (Base.impl_isRate_no _ _ (by omega)).mono ?_; rintro e w' ⟨rfl, rfl⟩)
      | (go_at_call 84; refine (Base.impl_isYears_yes _ _ (by omega) (by omega)).mono ?_; rintro e w' ⟨rfl, rfl⟩)
      | (go_at_call 84; refine (Base.impl_isYears_no _ _ (by omega)).mono ?_; rintro e w' ⟨rfl, rfl⟩)
      | (go_at_call 86; refine (Base.spec_l04Amount_yes _ _ (by omega) (by omega)).mono ?_; rintro e w' ⟨rfl, rfl⟩)
      | (go_at_call 86; refine (Base.spec_l04Amount_no _ _ (by omega)).mono ?_; rintro e w' ⟨rfl, rfl⟩)
      | (go_at_call 83; refine (Base.impl_isAmount_yes _ _ (by omega) (by omega)).mono ?_; rintro e w' ⟨rfl, rfl⟩)
      | (go_at_call 83; refine (Base.impl_isAmount_no _ _ (by omega)).mono ?_; rintro e w' ⟨rfl, rfl⟩)
      | (go_at_call 94; refine (Base.spec_l04Loan_yes _ _ _ _ (by omega) (by omega) (by omega) (by omega) (by omega) (by omega)).mono ?_; rintro e w' ⟨rfl, rfl⟩)
      | (go_at_call 94; refine (Base.spec_l04Loan_no _ _ _ _ (by omega)).mono ?_; rintro e w' ⟨rfl, rfl⟩)
      | (go_at_call 92; refine (Base.impl_isLoan_yes _ _ _ _ (by omega) (by omega) (by omega) (by omega) (by omega) (by omega)).mono ?_; rintro e w' ⟨rfl, rfl⟩)
      | (go_at_call 92; refine (Base.impl_isLoan_no _ _ _ _ (by omega)).mono ?_; rintro e w' ⟨rfl, rfl⟩)
      | (go_at_call 87; refine (Interest.l04Grow_any _ _ _ _ (by omega) (by omega) (by omega) (by omega) (by omega) (by omega)).mono ?_; rintro e w' ⟨rfl, rfl⟩)
      | (go_at_call 85; refine (Interest.grown_yes _ _ _ _ (by omega) (by omega) (by omega) (by omega) (by omega) (by omega) (by assumption)).mono ?_; rintro e w' ⟨rfl, rfl⟩)
      | (go_at_call 85; refine (Interest.grown_no _ _ _ _ (by omega) (by omega) (by omega) (by omega) (by omega) (by omega) (by assumption)).mono ?_; rintro e w' ⟨rfl, rfl⟩)
     )
      go_ret2
      exact ⟨Base.ret_ii V.out.1.symm V.out.2.symm, rfl⟩
    · have V := Lib.hid (grow_limit hc hg)
      have hg' : 1000000000000 < Plain.gc a r y.toNat := by omega
      clear hc hg
      go_enter Try.func40, Try.ntmps40
      go_wp2_with (first
      | (go_at_call 65; refine (Base.l01In_yes _ _ _ _ (by omega) (by omega)).mono ?_; rintro e w' ⟨rfl, rfl⟩)
      | (go_at_call 65; refine (Base.l01In_no _ _ _ _ (by omega)).mono ?_; rintro e w' ⟨rfl, rfl⟩)
      | (go_at_call 63; refine (Base.inRange_yes _ _ _ _ (by omega) (by omega)).mono ?_; rintro e w' ⟨rfl, rfl⟩)
      | (go_at_call 63; refine (Base.inRange_no _ _ _ _ (by omega)).mono ?_; rintro e w' ⟨rfl, rfl⟩)
      | (go_at_call 70; refine (Base.spec_l01Money_yes _ _ (by omega) (by omega)).mono ?_; rintro e w' ⟨rfl, rfl⟩)
      | (go_at_call 70; refine (Base.spec_l01Money_no _ _ (by omega)).mono ?_; rintro e w' ⟨rfl, rfl⟩)
      | (go_at_call 68; refine (Base.impl_isMoney_yes _ _ (by omega) (by omega)).mono ?_; rintro e w' ⟨rfl, rfl⟩)
      | (go_at_call 68; refine (Base.impl_isMoney_no _ _ (by omega)).mono ?_; rintro e w' ⟨rfl, rfl⟩)
      | (go_at_call 79; refine (Base.spec_l02Month_yes _ _ (by omega) (by omega)).mono ?_; rintro e w' ⟨rfl, rfl⟩)
      | (go_at_call 79; refine (Base.spec_l02Month_no _ _ (by omega)).mono ?_; rintro e w' ⟨rfl, rfl⟩)
      | (go_at_call 78; refine (Base.impl_isMonth_yes _ _ (by omega) (by omega)).mono ?_; rintro e w' ⟨rfl, rfl⟩)
      | (go_at_call 78; refine (Base.impl_isMonth_no _ _ (by omega)).mono ?_; rintro e w' ⟨rfl, rfl⟩)
      | (go_at_call 90; refine (Base.spec_l04Rate_yes _ _ (by omega) (by omega)).mono ?_; rintro e w' ⟨rfl, rfl⟩)
      | (go_at_call 90; refine (Base.spec_l04Rate_no _ _ (by omega)).mono ?_; rintro e w' ⟨rfl, rfl⟩)
      | (go_at_call 89; refine (Base.impl_isRate_yes _ _ (by omega) (by omega)).mono ?_; rintro e w' ⟨rfl, rfl⟩)
      | (go_at_call 89; refine (Base.impl_isRate_no _ _ (by omega)).mono ?_; rintro e w' ⟨rfl, rfl⟩)
      | (go_at_call 84; refine (Base.impl_isYears_yes _ _ (by omega) (by omega)).mono ?_; rintro e w' ⟨rfl, rfl⟩)
      | (go_at_call 84; refine (Base.impl_isYears_no _ _ (by omega)).mono ?_; rintro e w' ⟨rfl, rfl⟩)
      | (go_at_call 86; refine (Base.spec_l04Amount_yes _ _ (by omega) (by omega)).mono ?_; rintro e w' ⟨rfl, rfl⟩)
      | (go_at_call 86; refine (Base.spec_l04Amount_no _ _ (by omega)).mono ?_; rintro e w' ⟨rfl, rfl⟩)
      | (go_at_call 83; refine (Base.impl_isAmount_yes _ _ (by omega) (by omega)).mono ?_; rintro e w' ⟨rfl, rfl⟩)
      | (go_at_call 83; refine (Base.impl_isAmount_no _ _ (by omega)).mono ?_; rintro e w' ⟨rfl, rfl⟩)
      | (go_at_call 94; refine (Base.spec_l04Loan_yes _ _ _ _ (by omega) (by omega) (by omega) (by omega) (by omega) (by omega)).mono ?_; rintro e w' ⟨rfl, rfl⟩)
      | (go_at_call 94; refine (Base.spec_l04Loan_no _ _ _ _ (by omega)).mono ?_; rintro e w' ⟨rfl, rfl⟩)
      | (go_at_call 92; refine (Base.impl_isLoan_yes _ _ _ _ (by omega) (by omega) (by omega) (by omega) (by omega) (by omega)).mono ?_; rintro e w' ⟨rfl, rfl⟩)
      | (go_at_call 92; refine (Base.impl_isLoan_no _ _ _ _ (by omega)).mono ?_; rintro e w' ⟨rfl, rfl⟩)
      | (go_at_call 87; refine (Interest.l04Grow_any _ _ _ _ (by omega) (by omega) (by omega) (by omega) (by omega) (by omega)).mono ?_; rintro e w' ⟨rfl, rfl⟩)
      | (go_at_call 85; refine (Interest.grown_yes _ _ _ _ (by omega) (by omega) (by omega) (by omega) (by omega) (by omega) (by assumption)).mono ?_; rintro e w' ⟨rfl, rfl⟩)
      | (go_at_call 85; refine (Interest.grown_no _ _ _ _ (by omega) (by omega) (by omega) (by omega) (by omega) (by omega) (by assumption)).mono ?_; rintro e w' ⟨rfl, rfl⟩)
     )
      go_ret2
      exact ⟨Base.ret_ii V.out.1.symm V.out.2.symm, rfl⟩
  · have hk : ¬ (0 ≤ a ∧ a ≤ 1000000000 ∧ 0 ≤ r ∧ r ≤ 200 ∧ 0 ≤ y ∧ y ≤ 120) := by simpa [growOk] using hc
    have V := Lib.hid (grow_out hc)
    clear hc
    rcases (by omega : (a < 0 ∨ 1000000000 < a) ∨ (0 ≤ a ∧ a ≤ 1000000000 ∧ (r < 0 ∨ 200 < r)) ∨ (0 ≤ a ∧ a ≤ 1000000000 ∧ 0 ≤ r ∧ r ≤ 200 ∧ (y < 0 ∨ 120 < y))) with g | ⟨g1, g2, g⟩ | ⟨g1, g2, g3, g4, g⟩
    all_goals
      clear hk
      go_enter Try.func40, Try.ntmps40
      go_wp2_with (first
      | (go_at_call 65; refine (Base.l01In_yes _ _ _ _ (by omega) (by omega)).mono ?_; rintro e w' ⟨rfl, rfl⟩)
      | (go_at_call 65; refine (Base.l01In_no _ _ _ _ (by omega)).mono ?_; rintro e w' ⟨rfl, rfl⟩)
      | (go_at_call 63; refine (Base.inRange_yes _ _ _ _ (by omega) (by omega)).mono ?_; rintro e w' ⟨rfl, rfl⟩)
      | (go_at_call 63; refine (Base.inRange_no _ _ _ _ (by omega)).mono ?_; rintro e w' ⟨rfl, rfl⟩)
      | (go_at_call 70; refine (Base.spec_l01Money_yes _ _ (by omega) (by omega)).mono ?_; rintro e w' ⟨rfl, rfl⟩)
      | (go_at_call 70; refine (Base.spec_l01Money_no _ _ (by omega)).mono ?_; rintro e w' ⟨rfl, rfl⟩)
      | (go_at_call 68; refine (Base.impl_isMoney_yes _ _ (by omega) (by omega)).mono ?_; rintro e w' ⟨rfl, rfl⟩)
      | (go_at_call 68; refine (Base.impl_isMoney_no _ _ (by omega)).mono ?_; rintro e w' ⟨rfl, rfl⟩)
      | (go_at_call 79; refine (Base.spec_l02Month_yes _ _ (by omega) (by omega)).mono ?_; rintro e w' ⟨rfl, rfl⟩)
      | (go_at_call 79; refine (Base.spec_l02Month_no _ _ (by omega)).mono ?_; rintro e w' ⟨rfl, rfl⟩)
      | (go_at_call 78; refine (Base.impl_isMonth_yes _ _ (by omega) (by omega)).mono ?_; rintro e w' ⟨rfl, rfl⟩)
      | (go_at_call 78; refine (Base.impl_isMonth_no _ _ (by omega)).mono ?_; rintro e w' ⟨rfl, rfl⟩)
      | (go_at_call 90; refine (Base.spec_l04Rate_yes _ _ (by omega) (by omega)).mono ?_; rintro e w' ⟨rfl, rfl⟩)
      | (go_at_call 90; refine (Base.spec_l04Rate_no _ _ (by omega)).mono ?_; rintro e w' ⟨rfl, rfl⟩)
      | (go_at_call 89; refine (Base.impl_isRate_yes _ _ (by omega) (by omega)).mono ?_; rintro e w' ⟨rfl, rfl⟩)
      | (go_at_call 89; refine (Base.impl_isRate_no _ _ (by omega)).mono ?_; rintro e w' ⟨rfl, rfl⟩)
      | (go_at_call 84; refine (Base.impl_isYears_yes _ _ (by omega) (by omega)).mono ?_; rintro e w' ⟨rfl, rfl⟩)
      | (go_at_call 84; refine (Base.impl_isYears_no _ _ (by omega)).mono ?_; rintro e w' ⟨rfl, rfl⟩)
      | (go_at_call 86; refine (Base.spec_l04Amount_yes _ _ (by omega) (by omega)).mono ?_; rintro e w' ⟨rfl, rfl⟩)
      | (go_at_call 86; refine (Base.spec_l04Amount_no _ _ (by omega)).mono ?_; rintro e w' ⟨rfl, rfl⟩)
      | (go_at_call 83; refine (Base.impl_isAmount_yes _ _ (by omega) (by omega)).mono ?_; rintro e w' ⟨rfl, rfl⟩)
      | (go_at_call 83; refine (Base.impl_isAmount_no _ _ (by omega)).mono ?_; rintro e w' ⟨rfl, rfl⟩)
      | (go_at_call 94; refine (Base.spec_l04Loan_yes _ _ _ _ (by omega) (by omega) (by omega) (by omega) (by omega) (by omega)).mono ?_; rintro e w' ⟨rfl, rfl⟩)
      | (go_at_call 94; refine (Base.spec_l04Loan_no _ _ _ _ (by omega)).mono ?_; rintro e w' ⟨rfl, rfl⟩)
      | (go_at_call 92; refine (Base.impl_isLoan_yes _ _ _ _ (by omega) (by omega) (by omega) (by omega) (by omega) (by omega)).mono ?_; rintro e w' ⟨rfl, rfl⟩)
      | (go_at_call 92; refine (Base.impl_isLoan_no _ _ _ _ (by omega)).mono ?_; rintro e w' ⟨rfl, rfl⟩)
     )
      go_ret2
      exact ⟨Base.ret_ii V.out.1.symm V.out.2.symm, rfl⟩
theorem implDoublingYears_any (x : Int) (w : World) : Calls Try.prog 43 #[.int .i64 x] w fun e w' => e = .returned (.tuple #[.int .i64 (dblV x), .int .i64 (dblC x)]) ∧ w = w' := by
  by_cases hc : 0 ≤ x ∧ x ≤ 200
  · unfold dblV dblC
    rw [if_pos hc, if_pos hc]
    exact implDoublingYears_in x w hc.1 hc.2
  · have V : Hid (dblV x = 0 ∧ dblC x = 2) := by show _ ∧ _; unfold dblV dblC; rw [if_neg hc, if_neg hc]; exact ⟨rfl, rfl⟩
    have hc' : x < 0 ∨ 200 < x := by omega
    clear hc
    go_enter Try.func43, Try.ntmps43
    go_wp2_with (first
      | (go_at_call 65; refine (Base.l01In_yes _ _ _ _ (by omega) (by omega)).mono ?_; rintro e w' ⟨rfl, rfl⟩)
      | (go_at_call 65; refine (Base.l01In_no _ _ _ _ (by omega)).mono ?_; rintro e w' ⟨rfl, rfl⟩)
      | (go_at_call 63; refine (Base.inRange_yes _ _ _ _ (by omega) (by omega)).mono ?_; rintro e w' ⟨rfl, rfl⟩)
      | (go_at_call 63; refine (Base.inRange_no _ _ _ _ (by omega)).mono ?_; rintro e w' ⟨rfl, rfl⟩)
      | (go_at_call 70; refine (Base.spec_l01Money_yes _ _ (by omega) (by omega)).mono ?_; rintro e w' ⟨rfl, rfl⟩)
      | (go_at_call 70; refine (Base.spec_l01Money_no _ _ (by omega)).mono ?_; rintro e w' ⟨rfl, rfl⟩)
      | (go_at_call 68; refine (Base.impl_isMoney_yes _ _ (by omega) (by omega)).mono ?_; rintro e w' ⟨rfl, rfl⟩)
      | (go_at_call 68; refine (Base.impl_isMoney_no _ _ (by omega)).mono ?_; rintro e w' ⟨rfl, rfl⟩)
      | (go_at_call 79; refine (Base.spec_l02Month_yes _ _ (by omega) (by omega)).mono ?_; rintro e w' ⟨rfl, rfl⟩)
      | (go_at_call 79; refine (Base.spec_l02Month_no _ _ (by omega)).mono ?_; rintro e w' ⟨rfl, rfl⟩)
      | (go_at_call 78; refine (Base.impl_isMonth_yes _ _ (by omega) (by omega)).mono ?_; rintro e w' ⟨rfl, rfl⟩)
      | (go_at_call 78; refine (Base.impl_isMonth_no _ _ (by omega)).mono ?_; rintro e w' ⟨rfl, rfl⟩)
      | (go_at_call 90; refine (Base.spec_l04Rate_yes _ _ (by omega) (by omega)).mono ?_; rintro e w' ⟨rfl, rfl⟩)
      | (go_at_call 90; refine (Base.spec_l04Rate_no _ _ (by omega)).mono ?_; rintro e w' ⟨rfl, rfl⟩)
      | (go_at_call 89; refine (Base.impl_isRate_yes _ _ (by omega) (by omega)).mono ?_; rintro e w' ⟨rfl, rfl⟩)
      | (go_at_call 89; refine (Base.impl_isRate_no _ _ (by omega)).mono ?_; rintro e w' ⟨rfl, rfl⟩)
      | (go_at_call 84; refine (Base.impl_isYears_yes _ _ (by omega) (by omega)).mono ?_; rintro e w' ⟨rfl, rfl⟩)
      | (go_at_call 84; refine (Base.impl_isYears_no _ _ (by omega)).mono ?_; rintro e w' ⟨rfl, rfl⟩)
      | (go_at_call 86; refine (Base.spec_l04Amount_yes _ _ (by omega) (by omega)).mono ?_; rintro e w' ⟨rfl, rfl⟩)
      | (go_at_call 86; refine (Base.spec_l04Amount_no _ _ (by omega)).mono ?_; rintro e w' ⟨rfl, rfl⟩)
      | (go_at_call 83; refine (Base.impl_isAmount_yes _ _ (by omega) (by omega)).mono ?_; rintro e w' ⟨rfl, rfl⟩)
      | (go_at_call 83; refine (Base.impl_isAmount_no _ _ (by omega)).mono ?_; rintro e w' ⟨rfl, rfl⟩)
      | (go_at_call 94; refine (Base.spec_l04Loan_yes _ _ _ _ (by omega) (by omega) (by omega) (by omega) (by omega) (by omega)).mono ?_; rintro e w' ⟨rfl, rfl⟩)
      | (go_at_call 94; refine (Base.spec_l04Loan_no _ _ _ _ (by omega)).mono ?_; rintro e w' ⟨rfl, rfl⟩)
      | (go_at_call 92; refine (Base.impl_isLoan_yes _ _ _ _ (by omega) (by omega) (by omega) (by omega) (by omega) (by omega)).mono ?_; rintro e w' ⟨rfl, rfl⟩)
      | (go_at_call 92; refine (Base.impl_isLoan_no _ _ _ _ (by omega)).mono ?_; rintro e w' ⟨rfl, rfl⟩)
     )
    go_ret2
    exact ⟨Base.ret_ii V.out.1.symm V.out.2.symm, rfl⟩
theorem implRateBetween_any (a l y : Int) (w : World) : Calls Try.prog 37 #[.int .i64 a, .int .i64 l, .int .i64 y] w fun e w' => e = .returned (.tuple #[.int .i64 (rbV a l y), .int .i64 (rbC a l y)]) ∧ w = w' := by
  by_cases hc : rbOk a l y = true
  · have hk : 0 ≤ a ∧ a ≤ 1000000000 ∧ 0 ≤ l ∧ l ≤ 1000000000 ∧ 0 ≤ y ∧ y ≤ 120 := by simpa [rbOk] using hc
    obtain ⟨k1, k2, k3, k4, k5, k6⟩ := hk
    unfold rbV rbC
    rw [if_pos hc, if_pos hc]
    exact implRateBetween_in a l y w k1 k2 k3 k4 k5 k6
  · have hk : ¬ (0 ≤ a ∧ a ≤ 1000000000 ∧ 0 ≤ l ∧ l ≤ 1000000000 ∧ 0 ≤ y ∧ y ≤ 120) := by simpa [rbOk] using hc
    have V : Hid (rbV a l y = 0 ∧ rbC a l y = 2) := by show _ ∧ _; unfold rbV rbC; rw [if_neg hc, if_neg hc]; exact ⟨rfl, rfl⟩
    clear hc
    rcases (by omega : (a < 0 ∨ 1000000000 < a) ∨ (0 ≤ a ∧ a ≤ 1000000000 ∧ (l < 0 ∨ 1000000000 < l)) ∨ (0 ≤ a ∧ a ≤ 1000000000 ∧ 0 ≤ l ∧ l ≤ 1000000000 ∧ (y < 0 ∨ 120 < y))) with g | ⟨g1, g2, g⟩ | ⟨g1, g2, g3, g4, g⟩
    all_goals
      clear hk
      go_enter Try.func37, Try.ntmps37
      go_wp2_with (first
      | (go_at_call 65; refine (Base.l01In_yes _ _ _ _ (by omega) (by omega)).mono ?_; rintro e w' ⟨rfl, rfl⟩)
      | (go_at_call 65; refine (Base.l01In_no _ _ _ _ (by omega)).mono ?_; rintro e w' ⟨rfl, rfl⟩)
      | (go_at_call 63; refine (Base.inRange_yes _ _ _ _ (by omega) (by omega)).mono ?_; rintro e w' ⟨rfl, rfl⟩)
      | (go_at_call 63; refine (Base.inRange_no _ _ _ _ (by omega)).mono ?_; rintro e w' ⟨rfl, rfl⟩)
      | (go_at_call 70; refine (Base.spec_l01Money_yes _ _ (by omega) (by omega)).mono ?_; rintro e w' ⟨rfl, rfl⟩)
      | (go_at_call 70; refine (Base.spec_l01Money_no _ _ (by omega)).mono ?_; rintro e w' ⟨rfl, rfl⟩)
      | (go_at_call 68; refine (Base.impl_isMoney_yes _ _ (by omega) (by omega)).mono ?_; rintro e w' ⟨rfl, rfl⟩)
      | (go_at_call 68; refine (Base.impl_isMoney_no _ _ (by omega)).mono ?_; rintro e w' ⟨rfl, rfl⟩)
      | (go_at_call 79; refine (Base.spec_l02Month_yes _ _ (by omega) (by omega)).mono ?_; rintro e w' ⟨rfl, rfl⟩)
      | (go_at_call 79; refine (Base.spec_l02Month_no _ _ (by omega)).mono ?_; rintro e w' ⟨rfl, rfl⟩)
      | (go_at_call 78; refine (Base.impl_isMonth_yes _ _ (by omega) (by omega)).mono ?_; rintro e w' ⟨rfl, rfl⟩)
      | (go_at_call 78; refine (Base.impl_isMonth_no _ _ (by omega)).mono ?_; rintro e w' ⟨rfl, rfl⟩)
      | (go_at_call 90; refine (Base.spec_l04Rate_yes _ _ (by omega) (by omega)).mono ?_; rintro e w' ⟨rfl, rfl⟩)
      | (go_at_call 90; refine (Base.spec_l04Rate_no _ _ (by omega)).mono ?_; rintro e w' ⟨rfl, rfl⟩)
      | (go_at_call 89; refine (Base.impl_isRate_yes _ _ (by omega) (by omega)).mono ?_; rintro e w' ⟨rfl, rfl⟩)
      | (go_at_call 89; refine (Base.impl_isRate_no _ _ (by omega)).mono ?_; rintro e w' ⟨rfl, rfl⟩)
      | (go_at_call 84; refine (Base.impl_isYears_yes _ _ (by omega) (by omega)).mono ?_; rintro e w' ⟨rfl, rfl⟩)
      | (go_at_call 84; refine (Base.impl_isYears_no _ _ (by omega)).mono ?_; rintro e w' ⟨rfl, rfl⟩)
      | (go_at_call 86; refine (Base.spec_l04Amount_yes _ _ (by omega) (by omega)).mono ?_; rintro e w' ⟨rfl, rfl⟩)
      | (go_at_call 86; refine (Base.spec_l04Amount_no _ _ (by omega)).mono ?_; rintro e w' ⟨rfl, rfl⟩)
      | (go_at_call 83; refine (Base.impl_isAmount_yes _ _ (by omega) (by omega)).mono ?_; rintro e w' ⟨rfl, rfl⟩)
      | (go_at_call 83; refine (Base.impl_isAmount_no _ _ (by omega)).mono ?_; rintro e w' ⟨rfl, rfl⟩)
      | (go_at_call 94; refine (Base.spec_l04Loan_yes _ _ _ _ (by omega) (by omega) (by omega) (by omega) (by omega) (by omega)).mono ?_; rintro e w' ⟨rfl, rfl⟩)
      | (go_at_call 94; refine (Base.spec_l04Loan_no _ _ _ _ (by omega)).mono ?_; rintro e w' ⟨rfl, rfl⟩)
      | (go_at_call 92; refine (Base.impl_isLoan_yes _ _ _ _ (by omega) (by omega) (by omega) (by omega) (by omega) (by omega)).mono ?_; rintro e w' ⟨rfl, rfl⟩)
      | (go_at_call 92; refine (Base.impl_isLoan_no _ _ _ _ (by omega)).mono ?_; rintro e w' ⟨rfl, rfl⟩)
     )
      go_ret2
      exact ⟨Base.ret_ii V.out.1.symm V.out.2.symm, rfl⟩
end Go.Proofs.Ytdafgpikgpobbaa.Growths
