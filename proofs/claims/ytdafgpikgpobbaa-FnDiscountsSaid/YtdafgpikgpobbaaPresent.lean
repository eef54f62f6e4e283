/-
  Contracts of PresentValue of both packages: payments times discounts, added up.
  Conditions: the list reads as xs, all numbers of it in 0 .. 1000000000, at most 120; the rate lies in 0 .. 200.
-/
import Derived.Test.YtdafgpikgpobbaaDiscs
import Derived.Test.YtdafgpikgpobbaaInterest
namespace Go.Proofs.Ytdafgpikgpobbaa.Present
open Go.RowKit Mem
set_option linter.unusedVariables false

/-- The whole parts and the rests of the products, added up apart. -/
def pw (r : Int) (xs : List Int) : Nat → Int
  | 0 => 0
  | k + 1 => pw r xs k + xs.getD k 0 * Plain.disc r k / 1000000000
def pr (r : Int) (xs : List Int) : Nat → Int
  | 0 => 0
  | k + 1 => pr r xs k + xs.getD k 0 * Plain.disc r k % 1000000000
def pv (r : Int) (xs : List Int) : Int := pw r xs xs.length + Plain.upq (pr r xs xs.length) 1000000000

theorem prod_bd (r : Int) (h1 : 0 ≤ r) (x : Int) (hx : 0 ≤ x) (hx2 : x ≤ 1000000000) (k : Nat) : 0 ≤ x * Plain.disc r k ∧ x * Plain.disc r k ≤ 1000000000000000000 := by
  obtain ⟨d1, d2⟩ := Plain.disc_bd r h1 k
  exact Plain.mul_bd x (Plain.disc r k) 1000000000 1000000000 hx hx2 d1 d2
theorem pw_bd (r : Int) (h1 : 0 ≤ r) (xs : List Int) (h : within 0 1000000000 xs = true) (k : Nat) (hk : k ≤ xs.length) : 0 ≤ pw r xs k ∧ pw r xs k ≤ 1000000000 * k := by
  induction k with
  | zero => simp [pw]
  | succ k ih =>
    have := ih (by omega)
    have g := within_get h k (by omega)
    have b := prod_bd r h1 _ g.1 g.2 k
    show 0 ≤ pw r xs k + xs.getD k 0 * Plain.disc r k / 1000000000 ∧ pw r xs k + xs.getD k 0 * Plain.disc r k / 1000000000 ≤ _
    omega
theorem pr_bd (r : Int) (xs : List Int) (k : Nat) : 0 ≤ pr r xs k ∧ pr r xs k ≤ 1000000000 * k := by
  induction k with
  | zero => simp [pr]
  | succ k ih =>
    show 0 ≤ pr r xs k + xs.getD k 0 * Plain.disc r k % 1000000000 ∧ pr r xs k + xs.getD k 0 * Plain.disc r k % 1000000000 ≤ _
    omega
theorem pv_alt (r : Int) (xs : List Int) (a b : Int) (ha : a = pw r xs xs.length + pr r xs xs.length / 1000000000) (hb : b = pr r xs xs.length % 1000000000) : (1 ≤ b → a + 1 = pv r xs) ∧ (b = 0 → a = pv r xs) := by
  unfold pv Plain.upq
  omega

set_option maxHeartbeats 1000000 in
theorem implPresentValue_in (v : Value) (xs : List Int) (r : Int) (w : World) (h : Rd w v xs) (h1 : 0 ≤ r) (h2 : r ≤ 200) (hn : xs.length ≤ 120) (hw : within 0 1000000000 xs = true) :
    Calls Try.prog 57 #[v, .int .i64 r] w fun e w' => e = .returned (.tuple #[.int .i64 (pv r xs), .int .i64 0]) ∧ Below w.heap.size w w' := by
  have HW := Lib.hid hw
  have HR := Lib.hid h
  have PW := Lib.hid (pw_bd r h1 xs hw)
  have WG := Lib.hid (fun i hi => within_get hw i hi)
  clear hw
  have hd : decide (120 < (xs.length : Int)) = false := by simp; omega
  rcases h with ⟨rfl, rfl⟩ | ⟨b0, off0, cap0, rfl, hn0, hl0, hc0, hbl0, hx⟩
  · go_enter Try.func57, Try.ntmps57
    go_wp2_with (first
      | (go_at_call 100; refine (Lists.allIn_any _ _ _ _ _ HR.out).mono ?_; rintro e w1 ⟨rfl, hb1⟩; rw [HW.out]) | (go_at_call 96; refine (Discs.discounts_row _ _ (by omega) (by omega)).mono ?_; rintro e w2 ⟨b, off, cap, rfl, hc1, hc2, hbl, hcells, hb2⟩)
      | (go_at_call 65; refine (Base.l01In_yes _ _ _ _ (by omega) (by omega)).mono ?_; rintro e w' ⟨rfl, rfl⟩)
      | (go_at_call 65; refine (Base.l01In_no _ _ _ _ (by omega)).mono ?_; rintro e w' ⟨rfl, rfl⟩)
      | (go_at_call 63; refine (Base.inRange_yes _ _ _ _ (by omega) (by omega)).mono ?_; rintro e w' ⟨rfl, rfl⟩)
      | (go_at_call 63; refine (Base.inRange_no _ _ _ _ (by omega)).mono ?_; rintro e w' ⟨rfl, rfl⟩)
      | (go_at_call 70; refine (Base.spec_l01Money_yes _ _ (by omega) (by omega)).mono ?_; rintro e w' ⟨rfl, rfl⟩)
      | (go_at_call 70; refine (Base.spec_l01Money_no _ _ (by omega)).mono ?_; rintro e w' ⟨rfl, rfl⟩)
      | (go_at_call 68; refine (Base.impl_isMoney_yes _ _ (by omega) (by omega)).mono ?_; rintro e w' ⟨rfl, rfl⟩)
      | (go_at_call 68; refine (Base.impl_isMoney_no _ _ (by omega)).mono ?_; rintro e w' ⟨rfl, rfl⟩)
      | (go_at_call 79; refine (Base.spec_l02Month_yes _ _ (by omega) (by omega)).mono ?_; rintro e w' ⟨rfl, rfl⟩)
      | (go_at_call 79; refine (Base.spec_l02Month_no _ _ (by omega)).mono ?_; rintro e w' ⟨rfl, rfl⟩)
      | (go_at_call 78; refine (Base.impl_isMonth_yes _ _ (by omega) (by omega)).mono ?_; rintro e w' ⟨rfl, rfl⟩)
      | (go_at_call 78; refine (Base.impl_isMonth_no _ _ (by omega)).mono ?_; rintro e w' ⟨rfl, rfl⟩)
      | (go_at_call 90; refine (Base.spec_l04Rate_yes _ _ (by omega) (by omega)).mono ?_; rintro e w' ⟨rfl, rfl⟩)
      | (go_at_call 90; refine (Base.spec_l04Rate_no _ _ (by omega)).mono ?_; rintro e w' ⟨rfl, rfl⟩)
      | (go_at_call 89; refine (Base.impl_isRate_yes _ _ (by omega) (by omega)).mono ?_; rintro e w' ⟨rfl, rfl⟩)
      | (go_at_call 89; refine (Base.impl_isRate_no _ _ (by omega)).mono ?_; rintro e w' ⟨rfl, rfl⟩)
      | (go_at_call 84; refine (Base.impl_isYears_yes _ _ (by omega) (by omega)).mono ?_; rintro e w' ⟨rfl, rfl⟩)
      | (go_at_call 84; refine (Base.impl_isYears_no _ _ (by omega)).mono ?_; rintro e w' ⟨rfl, rfl⟩)
      | (go_at_call 86; refine (Base.spec_l04Amount_yes _ _ (by omega) (by omega)).mono ?_; rintro e w' ⟨rfl, rfl⟩)
      | (go_at_call 86; refine (Base.spec_l04Amount_no _ _ (by omega)).mono ?_; rintro e w' ⟨rfl, rfl⟩)
      | (go_at_call 83; refine (Base.impl_isAmount_yes _ _ (by omega) (by omega)).mono ?_; rintro e w' ⟨rfl, rfl⟩)
      | (go_at_call 83; refine (Base.impl_isAmount_no _ _ (by omega)).mono ?_; rintro e w' ⟨rfl, rfl⟩)
      | (go_at_call 94; refine (Base.spec_l04Loan_yes _ _ _ _ (by omega) (by omega) (by omega) (by omega) (by omega) (by omega)).mono ?_; rintro e w' ⟨rfl, rfl⟩)
      | (go_at_call 94; refine (Base.spec_l04Loan_no _ _ _ _ (by omega)).mono ?_; rintro e w' ⟨rfl, rfl⟩)
      | (go_at_call 92; refine (Base.impl_isLoan_yes _ _ _ _ (by omega) (by omega) (by omega) (by omega) (by omega) (by omega)).mono ?_; rintro e w' ⟨rfl, rfl⟩)
      | (go_at_call 92; refine (Base.impl_isLoan_no _ _ _ _ (by omega)).mono ?_; rintro e w' ⟨rfl, rfl⟩)
     )
    have u0 : Plain.upq 0 1000000000 = 0 := by decide
    refine wp_loop_rounds 1 ?_; rw [rounds_succ]
    go_wp2_with (first | (go_at_call 72; refine (Round.up_any _ _ _ (by omega) (by omega) (by omega) (by omega)).mono ?_; rintro e w4 ⟨rfl, rfl⟩))
    go_ret2
    exact ⟨rfl, bl hb1 hb2⟩
  · have HX := Lib.hid hx
    clear hx
    go_enter Try.func57, Try.ntmps57
    go_wp2_with (first
      | (go_at_call 100; refine (Lists.allIn_any _ _ _ _ _ HR.out).mono ?_; rintro e w1 ⟨rfl, hb1⟩; rw [HW.out]) | (go_at_call 96; refine (Discs.discounts_row _ _ (by omega) (by omega)).mono ?_; rintro e w2 ⟨b, off, cap, rfl, hc1, hc2, hbl, hcells, hb2⟩)
      | (go_at_call 65; refine (Base.l01In_yes _ _ _ _ (by omega) (by omega)).mono ?_; rintro e w' ⟨rfl, rfl⟩)
      | (go_at_call 65; refine (Base.l01In_no _ _ _ _ (by omega)).mono ?_; rintro e w' ⟨rfl, rfl⟩)
      | (go_at_call 63; refine (Base.inRange_yes _ _ _ _ (by omega) (by omega)).mono ?_; rintro e w' ⟨rfl, rfl⟩)
      | (go_at_call 63; refine (Base.inRange_no _ _ _ _ (by omega)).mono ?_; rintro e w' ⟨rfl, rfl⟩)
      | (go_at_call 70; refine (Base.spec_l01Money_yes _ _ (by omega) (by omega)).mono ?_; rintro e w' ⟨rfl, rfl⟩)
      | (go_at_call 70; refine (Base.spec_l01Money_no _ _ (by omega)).mono ?_; rintro e w' ⟨rfl, rfl⟩)
      | (go_at_call 68; refine (Base.impl_isMoney_yes _ _ (by omega) (by omega)).mono ?_; rintro e w' ⟨rfl, rfl⟩)
      | (go_at_call 68; refine (Base.impl_isMoney_no _ _ (by omega)).mono ?_; rintro e w' ⟨rfl, rfl⟩)
      | (go_at_call 79; refine (Base.spec_l02Month_yes _ _ (by omega) (by omega)).mono ?_; rintro e w' ⟨rfl, rfl⟩)
      | (go_at_call 79; refine (Base.spec_l02Month_no _ _ (by omega)).mono ?_; rintro e w' ⟨rfl, rfl⟩)
      | (go_at_call 78; refine (Base.impl_isMonth_yes _ _ (by omega) (by omega)).mono ?_; rintro e w' ⟨rfl, rfl⟩)
      | (go_at_call 78; refine (Base.impl_isMonth_no _ _ (by omega)).mono ?_; rintro e w' ⟨rfl, rfl⟩)
      | (go_at_call 90; refine (Base.spec_l04Rate_yes _ _ (by omega) (by omega)).mono ?_; rintro e w' ⟨rfl, rfl⟩)
      | (go_at_call 90; refine (Base.spec_l04Rate_no _ _ (by omega)).mono ?_; rintro e w' ⟨rfl, rfl⟩)
      | (go_at_call 89; refine (Base.impl_isRate_yes _ _ (by omega) (by omega)).mono ?_; rintro e w' ⟨rfl, rfl⟩)
      | (go_at_call 89; refine (Base.impl_isRate_no _ _ (by omega)).mono ?_; rintro e w' ⟨rfl, rfl⟩)
      | (go_at_call 84; refine (Base.impl_isYears_yes _ _ (by omega) (by omega)).mono ?_; rintro e w' ⟨rfl, rfl⟩)
      | (go_at_call 84; refine (Base.impl_isYears_no _ _ (by omega)).mono ?_; rintro e w' ⟨rfl, rfl⟩)
      | (go_at_call 86; refine (Base.spec_l04Amount_yes _ _ (by omega) (by omega)).mono ?_; rintro e w' ⟨rfl, rfl⟩)
      | (go_at_call 86; refine (Base.spec_l04Amount_no _ _ (by omega)).mono ?_; rintro e w' ⟨rfl, rfl⟩)
      | (go_at_call 83; refine (Base.impl_isAmount_yes _ _ (by omega) (by omega)).mono ?_; rintro e w' ⟨rfl, rfl⟩)
      | (go_at_call 83; refine (Base.impl_isAmount_no _ _ (by omega)).mono ?_; rintro e w' ⟨rfl, rfl⟩)
      | (go_at_call 94; refine (Base.spec_l04Loan_yes _ _ _ _ (by omega) (by omega) (by omega) (by omega) (by omega) (by omega)).mono ?_; rintro e w' ⟨rfl, rfl⟩)
      | (go_at_call 94; refine (Base.spec_l04Loan_no _ _ _ _ (by omega)).mono ?_; rintro e w' ⟨rfl, rfl⟩)
      | (go_at_call 92; refine (Base.impl_isLoan_yes _ _ _ _ (by omega) (by omega) (by omega) (by omega) (by omega) (by omega)).mono ?_; rintro e w' ⟨rfl, rfl⟩)
      | (go_at_call 92; refine (Base.impl_isLoan_no _ _ _ _ (by omega)).mono ?_; rintro e w' ⟨rfl, rfl⟩)
     )
    have hB := Lib.hid (bl hb1 hb2)
    clear hb1 hb2
    go_loopw [6, 7, 29] (fun o1 o2 i wr => ∃ (k q : Nat) (s1 s2 : Int), k ≤ xs.length ∧ i = .int .i64 k ∧ o1 = .int .i64 s1 ∧ o2 = .int .i64 s2 ∧ 0 ≤ s1 ∧ s1 ≤ 1000000000 * k ∧ 0 ≤ s2 ∧ s2 ≤ 1000000000 * k ∧ Hid (s1 = pw r xs k) ∧ Hid (s2 = pr r xs k) ∧ wr = w2.drewN q) (fun _ _ i _ => xs.length - (intOf i).toNat)
    case atStart => exact ⟨0, 0, 0, 0, by omega, rfl, rfl, rfl, by omega, by omega, by omega, by omega, rfl, rfl, rfl⟩
    case round =>
      obtain ⟨k, q, s1, s2, hk, rfl, rfl, rfl, a1, a2, a3, a4, H1, H2, rfl⟩ := hrel
      by_cases hlt : k < xs.length
      · have hx1 : w2.cell? ⟨b0, off0 + k, none⟩ = some (.int .i64 (xs.getD k 0)) := (hB.out.cell (p := ⟨b0, off0 + k, none⟩) hbl0).trans (HX.out k hlt)
        have hx2 : (w2.drewN q).cell? ⟨b0, off0 + k, none⟩ = some (.int .i64 (xs.getD k 0)) := hx1
        have hx3 : w2.cell? ⟨b, off + k, none⟩ = some (.int .i64 (Plain.disc r k)) := hcells.out k (by omega)
        have hx4 : (w2.drewN q).cell? ⟨b, off + k, none⟩ = some (.int .i64 (Plain.disc r k)) := hx3
        have g := WG.out k hlt
        obtain ⟨m1, m2⟩ := prod_bd r h1 _ g.1 g.2 k
        have E1 : Hid (s1 + xs.getD k 0 * Plain.disc r k / 1000000000 = pw r xs (k + 1)) := by show _ = pw r xs k + _; rw [← H1.out]
        have E2 : Hid (s2 + xs.getD k 0 * Plain.disc r k % 1000000000 = pr r xs (k + 1)) := by show _ = pr r xs k + _; rw [← H2.out]
        generalize xs.getD k 0 = x at *
        generalize Plain.disc r k = d at *
        go_wp2
        go_roundw
        case rel => exact ⟨k + 1, _, s1 + x * d / 1000000000, s2 + x * d % 1000000000, by omega, by go_num, rfl, rfl, by omega, by omega, by omega, by omega, E1.out, E2.out, by first | rfl | exact World.drewN_drewN ..⟩
        case measure => simp [intOf]; omega
      · obtain rfl : k = xs.length := by omega
        obtain ⟨u1, u2⟩ := Plain.upq_bd s2 1000000000 (by omega) (by omega)
        go_wp2_with (first | (go_at_call 72; refine (Round.up_any _ _ _ (by omega) (by omega) (by omega) (by omega)).mono ?_; rintro e w4 ⟨rfl, rfl⟩))
        go_ret2
        exact ⟨Base.ret_ii (show s1 + Plain.upq s2 1000000000 = pv r xs from by unfold pv; rw [← H1.out, ← H2.out]) rfl, below_drewN hB.out _⟩

theorem implPresentValue_out (v : Value) (xs : List Int) (r : Int) (w : World) (h : Rd w v xs) (hbad : 120 < xs.length ∨ within 0 1000000000 xs = false ∨ r < 0 ∨ 200 < r) :
    Calls Try.prog 57 #[v, .int .i64 r] w fun e w' => e = .returned (.tuple #[.int .i64 0, .int .i64 2]) ∧ Below w.heap.size w w' := by
  have hv : ∃ a c, v = .slice a xs.length c ∧ xs.length ≤ 1000000000000 := by
    rcases h with ⟨rfl, rfl⟩ | ⟨b, off, cap, rfl, hn, _⟩
    · exact ⟨_, _, rfl, by simp⟩
    · exact ⟨_, _, rfl, hn⟩
  obtain ⟨a, c, rfl, hlen⟩ := hv
  have HR := Lib.hid h
  clear h
  by_cases c1 : 120 < xs.length
  · go_enter Try.func57, Try.ntmps57
    go_wp2
    go_ret2
    exact ⟨rfl, Below.refl _ _⟩
  · cases hw : within 0 1000000000 xs with
    | false =>
      have HW := Lib.hid hw
      clear hw hbad
      go_enter Try.func57, Try.ntmps57
      go_wp2_with (first
      | (go_at_call 100; refine (Lists.allIn_any _ _ _ _ _ HR.out).mono ?_; rintro e w1 ⟨rfl, hb1⟩; rw [HW.out])
      | (go_at_call 65; refine (Base.l01In_yes _ _ _ _ (by omega) (by omega)).mono ?_; rintro e w' ⟨rfl, rfl⟩)
      | (go_at_call 65; refine (Base.l01In_no _ _ _ _ (by omega)).mono ?_; rintro e w' ⟨rfl, rfl⟩)
      | (go_at_call 63; refine (Base.inRange_yes _ _ _ _ (by omega) (by omega)).mono ?_; rintro e w' ⟨rfl, rfl⟩)
      | (go_at_call 63; refine (Base.inRange_no _ _ _ _ (by omega)).mono ?_; rintro e w' ⟨rfl, rfl⟩)
      | (go_at_call 70; refine (Base.spec_l01Money_yes _ _ (by omega) (by omega)).mono ?_; rintro e w' ⟨rfl, rfl⟩)
      | (go_at_call 70; refine (Base.spec_l01Money_no _ _ (by omega)).mono ?_; rintro e w' ⟨rfl, rfl⟩)
      | (go_at_call 68; refine (Base.impl_isMoney_yes _ _ (by omega) (by omega)).mono ?_; rintro e w' ⟨rfl, rfl⟩)
      | (go_at_call 68; refine (Base.impl_isMoney_no _ _ (by omega)).mono ?_; rintro e w' ⟨rfl, rfl⟩)
      | (go_at_call 79; refine (Base.spec_l02Month_yes _ _ (by omega) (by omega)).mono ?_; rintro e w' ⟨rfl, rfl⟩)
      | (go_at_call 79; refine (Base.spec_l02Month_no _ _ (by omega)).mono ?_; rintro e w' ⟨rfl, rfl⟩)
      | (go_at_call 78; refine (Base.impl_isMonth_yes _ _ (by omega) (by omega)).mono ?_; rintro e w' ⟨rfl, rfl⟩)
      | (go_at_call 78; refine (Base.impl_isMonth_no _ _ (by omega)).mono ?_; rintro e w' ⟨rfl, rfl⟩)
      | (go_at_call 90; refine (Base.spec_l04Rate_yes _ _ (by omega) (by omega)).mono ?_; rintro e w' ⟨rfl, rfl⟩)
      | (go_at_call 90; refine (Base.spec_l04Rate_no _ _ (by omega)).mono ?_; rintro e w' ⟨rfl, rfl⟩)
      | (go_at_call 89; refine (Base.impl_isRate_yes _ _ (by omega) (by omega)).mono ?_; rintro e w' ⟨rfl, rfl⟩)
      | (go_at_call 89; refine (Base.impl_isRate_no _ _ (by omega)).mono ?_; rintro e w' ⟨rfl, rfl⟩)
      | (go_at_call 84; refine (Base.impl_isYears_yes _ _ (by omega) (by omega)).mono ?_; rintro e w' ⟨rfl, rfl⟩)
      | (go_at_call 84; refine (Base.impl_isYears_no _ _ (by omega)).mono ?_; rintro e w' ⟨rfl, rfl⟩)
      | (go_at_call 86; refine (Base.spec_l04Amount_yes _ _ (by omega) (by omega)).mono ?_; rintro e w' ⟨rfl, rfl⟩)
      | (go_at_call 86; refine (Base.spec_l04Amount_no _ _ (by omega)).mono ?_; rintro e w' ⟨rfl, rfl⟩)
      | (go_at_call 83; refine (Base.impl_isAmount_yes _ _ (by omega) (by omega)).mono ?_; rintro e w' ⟨rfl, rfl⟩)
      | (go_at_call 83; refine (Base.impl_isAmount_no _ _ (by omega)).mono ?_; rintro e w' ⟨rfl, rfl⟩)
      | (go_at_call 94; refine (Base.spec_l04Loan_yes _ _ _ _ (by omega) (by omega) (by omega) (by omega) (by omega) (by omega)).mono ?_; rintro e w' ⟨rfl, rfl⟩)
      | (go_at_call 94; refine (Base.spec_l04Loan_no _ _ _ _ (by omega)).mono ?_; rintro e w' ⟨rfl, rfl⟩)
      | (go_at_call 92; refine (Base.impl_isLoan_yes _ _ _ _ (by omega) (by omega) (by omega) (by omega) (by omega) (by omega)).mono ?_; rintro e w' ⟨rfl, rfl⟩)
      | (go_at_call 92; refine (Base.impl_isLoan_no _ _ _ _ (by omega)).mono ?_; rintro e w' ⟨rfl, rfl⟩)
     )
      go_ret2
      exact ⟨rfl, hb1⟩
    | true =>
      have HW := Lib.hid hw
      have hr : r < 0 ∨ 200 < r := by
        rcases hbad with h | h | h
        · omega
        · rw [hw] at h; cases h
        · exact h
      clear hw hbad
      go_enter Try.func57, Try.ntmps57
      go_wp2_with (first
      | (go_at_call 100; refine (Lists.allIn_any _ _ _ _ _ HR.out).mono ?_; rintro e w1 ⟨rfl, hb1⟩; rw [HW.out])
      | (go_at_call 65; refine (Base.l01In_yes _ _ _ _ (by omega) (by omega)).mono ?_; rintro e w' ⟨rfl, rfl⟩)
      | (go_at_call 65; refine (Base.l01In_no _ _ _ _ (by omega)).mono ?_; rintro e w' ⟨rfl, rfl⟩)
      | (go_at_call 63; refine (Base.inRange_yes _ _ _ _ (by omega) (by omega)).mono ?_; rintro e w' ⟨rfl, rfl⟩)
      | (go_at_call 63; refine (Base.inRange_no _ _ _ _ (by omega)).mono ?_; rintro e w' ⟨rfl, rfl⟩)
      | (go_at_call 70; refine (Base.spec_l01Money_yes _ _ (by omega) (by omega)).mono ?_; rintro e w' ⟨rfl, rfl⟩)
      | (go_at_call 70; refine (Base.spec_l01Money_no _ _ (by omega)).mono ?_; rintro e w' ⟨rfl, rfl⟩)
      | (go_at_call 68; refine (Base.impl_isMoney_yes _ _ (by omega) (by omega)).mono ?_; rintro e w' ⟨rfl, rfl⟩)
      | (go_at_call 68; refine (Base.impl_isMoney_no _ _ (by omega)).mono ?_; rintro e w' ⟨rfl, rfl⟩)
      | (go_at_call 79; refine (Base.spec_l02Month_yes _ _ (by omega) (by omega)).mono ?_; rintro e w' ⟨rfl, rfl⟩)
      | (go_at_call 79; refine (Base.spec_l02Month_no _ _ (by omega)).mono ?_; rintro e w' ⟨rfl, rfl⟩)
      | (go_at_call 78; refine (Base.impl_isMonth_yes _ _ (by omega) (by omega)).mono ?_; rintro e w' ⟨rfl, rfl⟩)
      | (go_at_call 78; refine (Base.impl_isMonth_no _ _ (by omega)).mono ?_; rintro e w' ⟨rfl, rfl⟩)
      | (go_at_call 90; refine (Base.spec_l04Rate_yes _ _ (by omega) (by omega)).mono ?_; rintro e w' ⟨rfl, rfl⟩)
      | (go_at_call 90; refine (Base.spec_l04Rate_no _ _ (by omega)).mono ?_; rintro e w' ⟨rfl, rfl⟩)
      | (go_at_call 89; refine (Base.impl_isRate_yes _ _ (by omega) (by omega)).mono ?_; rintro e w' ⟨rfl, rfl⟩)
      | (go_at_call 89; refine (Base.impl_isRate_no _ _ (by omega)).mono ?_; rintro e w' ⟨rfl, rfl⟩)
      | (go_at_call 84; refine (Base.impl_isYears_yes _ _ (by omega) (by omega)).mono ?_; rintro e w' ⟨rfl, rfl⟩)
      | (go_at_call 84; refine (Base.impl_isYears_no _ _ (by omega)).mono ?_; rintro e w' ⟨rfl, rfl⟩)
      | (go_at_call 86; refine (Base.spec_l04Amount_yes _ _ (by omega) (by omega)).mono ?_; rintro e w' ⟨rfl, rfl⟩)
      | (go_at_call 86; refine (Base.spec_l04Amount_no _ _ (by omega)).mono ?_; rintro e w' ⟨rfl, rfl⟩)
      | (go_at_call 83; refine (Base.impl_isAmount_yes _ _ (by omega) (by omega)).mono ?_; rintro e w' ⟨rfl, rfl⟩)
      | (go_at_call 83; refine (Base.impl_isAmount_no _ _ (by omega)).mono ?_; rintro e w' ⟨rfl, rfl⟩)
      | (go_at_call 94; refine (Base.spec_l04Loan_yes _ _ _ _ (by omega) (by omega) (by omega) (by omega) (by omega) (by omega)).mono ?_; rintro e w' ⟨rfl, rfl⟩)
      | (go_at_call 94; refine (Base.spec_l04Loan_no _ _ _ _ (by omega)).mono ?_; rintro e w' ⟨rfl, rfl⟩)
      | (go_at_call 92; refine (Base.impl_isLoan_yes _ _ _ _ (by omega) (by omega) (by omega) (by omega) (by omega) (by omega)).mono ?_; rintro e w' ⟨rfl, rfl⟩)
      | (go_at_call 92; refine (Base.impl_isLoan_no _ _ _ _ (by omega)).mono ?_; rintro e w' ⟨rfl, rfl⟩)
     )
      go_ret2
      exact ⟨rfl, hb1⟩

theorem l04Parts_any (wh re x d : Int) (w : World) (h1 : 0 ≤ wh) (h2 : wh ≤ 1000000000000) (h3 : 0 ≤ re) (h4 : re < 1000000000) (h5 : 0 ≤ x * d) (h6 : x * d ≤ 1000000000000000000) :
    Calls Try.prog 102 #[.int .i64 wh, .int .i64 re, .int .i64 x, .int .i64 d] w fun e w' => e = .returned (.tuple #[.int .i64 (wh + x * d / 1000000000 + (re + x * d % 1000000000) / 1000000000), .int .i64 ((re + x * d % 1000000000) % 1000000000)]) ∧ w = w' := by
  go_enter Try.func102, Try.ntmps102
  go_wp2
  go_ret2
  exact ⟨rfl, rfl⟩

set_option maxHeartbeats 1000000 in
theorem specPresentValue_in (v : Value) (xs : List Int) (r : Int) (w : World) (h : Rd w v xs) (h1 : 0 ≤ r) (h2 : r ≤ 200) (hn : xs.length ≤ 120) (hw : within 0 1000000000 xs = true) :
    Calls Try.prog 58 #[v, .int .i64 r] w fun e w' => e = .returned (.tuple #[.int .i64 (pv r xs), .int .i64 0]) ∧ Below w.heap.size w w' := by
  have HW := Lib.hid hw
  have HR := Lib.hid h
  have PW := Lib.hid (pw_bd r h1 xs hw)
  have WG := Lib.hid (fun i hi => within_get hw i hi)
  clear hw
  have hd : decide (120 < (xs.length : Int)) = false := by simp; omega
  rcases h with ⟨rfl, rfl⟩ | ⟨b0, off0, cap0, rfl, hn0, hl0, hc0, hbl0, hx⟩
  · go_enter Try.func58, Try.ntmps58
    go_wp2_with (first
      | (go_at_call 101; refine (Lists.l01Within_yes _ _ _ _ _ _ HR.out HW.out (by omega)).mono ?_; rintro e w1 ⟨rfl, hb1⟩)
      | (go_at_call 65; refine (Base.l01In_yes _ _ _ _ (by omega) (by omega)).mono ?_; rintro e w' ⟨rfl, rfl⟩)
      | (go_at_call 65; refine (Base.l01In_no _ _ _ _ (by omega)).mono ?_; rintro e w' ⟨rfl, rfl⟩)
      | (go_at_call 63; refine (Base.inRange_yes _ _ _ _ (by omega) (by omega)).mono ?_; rintro e w' ⟨rfl, rfl⟩)
      | (go_at_call 63; refine (Base.inRange_no _ _ _ _ (by omega)).mono ?_; rintro e w' ⟨rfl, rfl⟩)
      | (go_at_call 70; refine (Base.spec_l01Money_yes _ _ (by omega) (by omega)).mono ?_; rintro e w' ⟨rfl, rfl⟩)
      | (go_at_call 70; refine (Base.spec_l01Money_no _ _ (by omega)).mono ?_; rintro e w' ⟨rfl, rfl⟩)
      | (go_at_call 68; refine (Base.impl_isMoney_yes _ _ (by omega) (by omega)).mono ?_; rintro e w' ⟨rfl, rfl⟩)
      | (go_at_call 68; refine (Base.impl_isMoney_no _ _ (by omega)).mono ?_; rintro e w' ⟨rfl, rfl⟩)
      | (go_at_call 79; refine (Base.spec_l02Month_yes _ _ (by omega) (by omega)).mono ?_; rintro e w' ⟨rfl, rfl⟩)
      | (go_at_call 79; refine (Base.spec_l02Month_no _ _ (by omega)).mono ?_; rintro e w' ⟨rfl, rfl⟩)
      | (go_at_call 78; refine (Base.impl_isMonth_yes _ _ (by omega) (by omega)).mono ?_; rintro e w' ⟨rfl, rfl⟩)
      | (go_at_call 78; refine (Base.impl_isMonth_no _ _ (by omega)).mono ?_; rintro e w' ⟨rfl, rfl⟩)
      | (go_at_call 90; refine (Base.spec_l04Rate_yes _ _ (by omega) (by omega)).mono ?_; rintro e w' ⟨rfl, rfl⟩)
      | (go_at_call 90; refine (Base.spec_l04Rate_no _ _ (by omega)).mono ?_; rintro e w' ⟨rfl, rfl⟩)
      | (go_at_call 89; refine (Base.impl_isRate_yes _ _ (by omega) (by omega)).mono ?_; rintro e w' ⟨rfl, rfl⟩)
      | (go_at_call 89; refine (Base.impl_isRate_no _ _ (by omega)).mono ?_; rintro e w' ⟨rfl, rfl⟩)
      | (go_at_call 84; refine (Base.impl_isYears_yes _ _ (by omega) (by omega)).mono ?_; rintro e w' ⟨rfl, rfl⟩)
      | (go_at_call 84; refine (Base.impl_isYears_no _ _ (by omega)).mono ?_; rintro e w' ⟨rfl, rfl⟩)
      | (go_at_call 86; refine (Base.spec_l04Amount_yes _ _ (by omega) (by omega)).mono ?_; rintro e w' ⟨rfl, rfl⟩)
      | (go_at_call 86; refine (Base.spec_l04Amount_no _ _ (by omega)).mono ?_; rintro e w' ⟨rfl, rfl⟩)
      | (go_at_call 83; refine (Base.impl_isAmount_yes _ _ (by omega) (by omega)).mono ?_; rintro e w' ⟨rfl, rfl⟩)
      | (go_at_call 83; refine (Base.impl_isAmount_no _ _ (by omega)).mono ?_; rintro e w' ⟨rfl, rfl⟩)
      | (go_at_call 94; refine (Base.spec_l04Loan_yes _ _ _ _ (by omega) (by omega) (by omega) (by omega) (by omega) (by omega)).mono ?_; rintro e w' ⟨rfl, rfl⟩)
      | (go_at_call 94; refine (Base.spec_l04Loan_no _ _ _ _ (by omega)).mono ?_; rintro e w' ⟨rfl, rfl⟩)
      | (go_at_call 92; refine (Base.impl_isLoan_yes _ _ _ _ (by omega) (by omega) (by omega) (by omega) (by omega) (by omega)).mono ?_; rintro e w' ⟨rfl, rfl⟩)
      | (go_at_call 92; refine (Base.impl_isLoan_no _ _ _ _ (by omega)).mono ?_; rintro e w' ⟨rfl, rfl⟩)
     )
    refine wp_loop_rounds 1 ?_; rw [rounds_succ]
    go_wp2
    go_ret2
    exact ⟨rfl, hb1⟩
  · have HX := Lib.hid hx
    clear hx
    go_enter Try.func58, Try.ntmps58
    go_wp2_with (first
      | (go_at_call 101; refine (Lists.l01Within_yes _ _ _ _ _ _ HR.out HW.out (by omega)).mono ?_; rintro e w1 ⟨rfl, hb1⟩)
      | (go_at_call 65; refine (Base.l01In_yes _ _ _ _ (by omega) (by omega)).mono ?_; rintro e w' ⟨rfl, rfl⟩)
      | (go_at_call 65; refine (Base.l01In_no _ _ _ _ (by omega)).mono ?_; rintro e w' ⟨rfl, rfl⟩)
      | (go_at_call 63; refine (Base.inRange_yes _ _ _ _ (by omega) (by omega)).mono ?_; rintro e w' ⟨rfl, rfl⟩)
      | (go_at_call 63; refine (Base.inRange_no _ _ _ _ (by omega)).mono ?_; rintro e w' ⟨rfl, rfl⟩)
      | (go_at_call 70; refine (Base.spec_l01Money_yes _ _ (by omega) (by omega)).mono ?_; rintro e w' ⟨rfl, rfl⟩)
      | (go_at_call 70; refine (Base.spec_l01Money_no _ _ (by omega)).mono ?_; rintro e w' ⟨rfl, rfl⟩)
      | (go_at_call 68; refine (Base.impl_isMoney_yes _ _ (by omega) (by omega)).mono ?_; rintro e w' ⟨rfl, rfl⟩)
      | (go_at_call 68; refine (Base.impl_isMoney_no _ _ (by omega)).mono ?_; rintro e w' ⟨rfl, rfl⟩)
      | (go_at_call 79; refine (Base.spec_l02Month_yes _ _ (by omega) (by omega)).mono ?_; rintro e w' ⟨rfl, rfl⟩)
      | (go_at_call 79; refine (Base.spec_l02Month_no _ _ (by omega)).mono ?_; rintro e w' ⟨rfl, rfl⟩)
      | (go_at_call 78; refine (Base.impl_isMonth_yes _ _ (by omega) (by omega)).mono ?_; rintro e w' ⟨rfl, rfl⟩)
      | (go_at_call 78; refine (Base.impl_isMonth_no _ _ (by omega)).mono ?_; rintro e w' ⟨rfl, rfl⟩)
      | (go_at_call 90; refine (Base.spec_l04Rate_yes _ _ (by omega) (by omega)).mono ?_; rintro e w' ⟨rfl, rfl⟩)
      | (go_at_call 90; refine (Base.spec_l04Rate_no _ _ (by omega)).mono ?_; rintro e w' ⟨rfl, rfl⟩)
      | (go_at_call 89; refine (Base.impl_isRate_yes _ _ (by omega) (by omega)).mono ?_; rintro e w' ⟨rfl, rfl⟩)
      | (go_at_call 89; refine (Base.impl_isRate_no _ _ (by omega)).mono ?_; rintro e w' ⟨rfl, rfl⟩)
      | (go_at_call 84; refine (Base.impl_isYears_yes _ _ (by omega) (by omega)).mono ?_; rintro e w' ⟨rfl, rfl⟩)
      | (go_at_call 84; refine (Base.impl_isYears_no _ _ (by omega)).mono ?_; rintro e w' ⟨rfl, rfl⟩)
      | (go_at_call 86; refine (Base.spec_l04Amount_yes _ _ (by omega) (by omega)).mono ?_; rintro e w' ⟨rfl, rfl⟩)
      | (go_at_call 86; refine (Base.spec_l04Amount_no _ _ (by omega)).mono ?_; rintro e w' ⟨rfl, rfl⟩)
      | (go_at_call 83; refine (Base.impl_isAmount_yes _ _ (by omega) (by omega)).mono ?_; rintro e w' ⟨rfl, rfl⟩)
      | (go_at_call 83; refine (Base.impl_isAmount_no _ _ (by omega)).mono ?_; rintro e w' ⟨rfl, rfl⟩)
      | (go_at_call 94; refine (Base.spec_l04Loan_yes _ _ _ _ (by omega) (by omega) (by omega) (by omega) (by omega) (by omega)).mono ?_; rintro e w' ⟨rfl, rfl⟩)
      | (go_at_call 94; refine (Base.spec_l04Loan_no _ _ _ _ (by omega)).mono ?_; rintro e w' ⟨rfl, rfl⟩)
      | (go_at_call 92; refine (Base.impl_isLoan_yes _ _ _ _ (by omega) (by omega) (by omega) (by omega) (by omega) (by omega)).mono ?_; rintro e w' ⟨rfl, rfl⟩)
      | (go_at_call 92; refine (Base.impl_isLoan_no _ _ _ _ (by omega)).mono ?_; rintro e w' ⟨rfl, rfl⟩)
     )
    have hB := Lib.hid hb1
    clear hb1
    go_loopw [6, 7, 8] (fun o1 o2 i wr => ∃ (k : Nat) (s1 s2 : Int), k ≤ xs.length ∧ i = .int .i64 k ∧ o1 = .int .i64 s1 ∧ o2 = .int .i64 s2 ∧ 0 ≤ s1 ∧ s1 ≤ 2000000000 * k ∧ 0 ≤ s2 ∧ s2 < 1000000000 ∧ Hid (s1 = pw r xs k + pr r xs k / 1000000000) ∧ Hid (s2 = pr r xs k % 1000000000) ∧ Hid (Below w.heap.size w wr)) (fun _ _ i _ => xs.length - (intOf i).toNat)
    case atStart => exact ⟨0, 0, 0, by omega, rfl, rfl, rfl, by omega, by omega, by omega, by omega, rfl, rfl, hB.out⟩
    case round =>
      obtain ⟨k, s1, s2, hk, rfl, rfl, rfl, a1, a2, a3, a4, H1, H2, HBr⟩ := hrel
      by_cases hlt : k < xs.length
      · have hx1 : wr.cell? ⟨b0, off0 + k, none⟩ = some (.int .i64 (xs.getD k 0)) := (HBr.out.cell (p := ⟨b0, off0 + k, none⟩) hbl0).trans (HX.out k hlt)
        have g := WG.out k hlt
        obtain ⟨m1, m2⟩ := prod_bd r h1 _ g.1 g.2 k
        have E1 : Hid (s1 + xs.getD k 0 * Plain.disc r k / 1000000000 + (s2 + xs.getD k 0 * Plain.disc r k % 1000000000) / 1000000000 = pw r xs (k + 1) + pr r xs (k + 1) / 1000000000) := by
          show _ = pw r xs k + xs.getD k 0 * Plain.disc r k / 1000000000 + (pr r xs k + xs.getD k 0 * Plain.disc r k % 1000000000) / 1000000000
          have e1 := H1.out; have e2 := H2.out; omega
        have E2 : Hid ((s2 + xs.getD k 0 * Plain.disc r k % 1000000000) % 1000000000 = pr r xs (k + 1) % 1000000000) := by
          show _ = (pr r xs k + xs.getD k 0 * Plain.disc r k % 1000000000) % 1000000000
          have e2 := H2.out; omega
        have CD : Hid (∀ W, Calls Try.prog 97 #[.int .i64 r, .int .i64 (k : Int)] W fun e w' => e = .returned (.int .i64 (Plain.disc r k)) ∧ W = w') := fun W => by
          have := Interest.l04Discount_any r k W (by omega) (by omega) (by omega) (by omega)
          rw [Int.toNat_natCast] at this
          exact this
        generalize xs.getD k 0 = x at *
        generalize Plain.disc r k = d at *
        go_wp2
        go_quiet ((first | (go_at_call 97; exact Base.quiet_eq (CD.out _)) | (go_at_call 102; exact Base.quiet_eq (l04Parts_any _ _ _ _ _ (by omega) (by omega) (by omega) (by omega) (by omega) (by omega)))))
        go_wp2
        go_roundw
        case rel => exact ⟨k + 1, s1 + x * d / 1000000000 + (s2 + x * d % 1000000000) / 1000000000, (s2 + x * d % 1000000000) % 1000000000, by omega, by go_num, rfl, by first | rfl | (congr 1; omega), by omega, by omega, by omega, by omega, E1.out, E2.out, below_drewN HBr.out _⟩
        case measure => simp [intOf]; omega
      · obtain rfl : k = xs.length := by omega
        obtain ⟨p1, p2⟩ := pv_alt r xs s1 s2 H1.out H2.out
        by_cases hz : s2 = 0
        · have P := Lib.hid (p2 hz)
          subst hz
          clear p1 p2
          go_wp2
          go_ret2
          exact ⟨Base.ret_ii (by simpa using P.out) rfl, HBr.out⟩
        · have hz1 : 1 ≤ s2 := by omega
          have P := Lib.hid (p1 hz1)
          clear p1 p2 hz
          go_wp2
          go_ret2
          exact ⟨Base.ret_ii P.out rfl, HBr.out⟩

theorem specPresentValue_out (v : Value) (xs : List Int) (r : Int) (w : World) (h : Rd w v xs) (hbad : 120 < xs.length ∨ within 0 1000000000 xs = false ∨ r < 0 ∨ 200 < r) :
    Calls Try.prog 58 #[v, .int .i64 r] w fun e w' => e = .returned (.tuple #[.int .i64 0, .int .i64 2]) ∧ Below w.heap.size w w' := by
  have HR := Lib.hid h
  clear h
  by_cases hc : within 0 1000000000 xs = true ∧ xs.length ≤ 120
  · obtain ⟨hw, hn⟩ := hc
    have HW := Lib.hid hw
    have hr : r < 0 ∨ 200 < r := by
      rcases hbad with h | h | h
      · omega
      · rw [hw] at h; cases h
      · exact h
    clear hw hbad
    go_enter Try.func58, Try.ntmps58
    go_wp2_with (first
      | (go_at_call 101; refine (Lists.l01Within_yes _ _ _ _ _ _ HR.out HW.out (by omega)).mono ?_; rintro e w1 ⟨rfl, hb1⟩)
      | (go_at_call 65; refine (Base.l01In_yes _ _ _ _ (by omega) (by omega)).mono ?_; rintro e w' ⟨rfl, rfl⟩)
      | (go_at_call 65; refine (Base.l01In_no _ _ _ _ (by omega)).mono ?_; rintro e w' ⟨rfl, rfl⟩)
      | (go_at_call 63; refine (Base.inRange_yes _ _ _ _ (by omega) (by omega)).mono ?_; rintro e w' ⟨rfl, rfl⟩)
      | (go_at_call 63; refine (Base.inRange_no _ _ _ _ (by omega)).mono ?_; rintro e w' ⟨rfl, rfl⟩)
      | (go_at_call 70; refine (Base.spec_l01Money_yes _ _ (by omega) (by omega)).mono ?_; rintro e w' ⟨rfl, rfl⟩)
      | (go_at_call 70; refine (Base.spec_l01Money_no _ _ (by omega)).mono ?_; rintro e w' ⟨rfl, rfl⟩)
      | (go_at_call 68; refine (Base.impl_isMoney_yes _ _ (by omega) (by omega)).mono ?_; rintro e w' ⟨rfl, rfl⟩)
      | (go_at_call 68; refine (Base.impl_isMoney_no _ _ (by omega)).mono ?_; rintro e w' ⟨rfl, rfl⟩)
      | (go_at_call 79; refine (Base.spec_l02Month_yes _ _ (by omega) (by omega)).mono ?_; rintro e w' ⟨rfl, rfl⟩)
      | (go_at_call 79; refine (Base.spec_l02Month_no _ _ (by omega)).mono ?_; rintro e w' ⟨rfl, rfl⟩)
      | (go_at_call 78; refine (Base.impl_isMonth_yes _ _ (by omega) (by omega)).mono ?_; rintro e w' ⟨rfl, rfl⟩)
      | (go_at_call 78; refine (Base.impl_isMonth_no _ _ (by omega)).mono ?_; rintro e w' ⟨rfl, rfl⟩)
      | (go_at_call 90; refine (Base.spec_l04Rate_yes _ _ (by omega) (by omega)).mono ?_; rintro e w' ⟨rfl, rfl⟩)
      | (go_at_call 90; refine (Base.spec_l04Rate_no _ _ (by omega)).mono ?_; rintro e w' ⟨rfl, rfl⟩)
      | (go_at_call 89; refine (Base.impl_isRate_yes _ _ (by omega) (by omega)).mono ?_; rintro e w' ⟨rfl, rfl⟩)
      | (go_at_call 89; refine (Base.impl_isRate_no _ _ (by omega)).mono ?_; rintro e w' ⟨rfl, rfl⟩)
      | (go_at_call 84; refine (Base.impl_isYears_yes _ _ (by omega) (by omega)).mono ?_; rintro e w' ⟨rfl, rfl⟩)
      | (go_at_call 84; refine (Base.impl_isYears_no _ _ (by omega)).mono ?_; rintro e w' ⟨rfl, rfl⟩)
      | (go_at_call 86; refine (Base.spec_l04Amount_yes _ _ (by omega) (by omega)).mono ?_; rintro e w' ⟨rfl, rfl⟩)
      | (go_at_call 86; refine (Base.spec_l04Amount_no _ _ (by omega)).mono ?_; rintro e w' ⟨rfl, rfl⟩)
      | (go_at_call 83; refine (Base.impl_isAmount_yes _ _ (by omega) (by omega)).mono ?_; rintro e w' ⟨rfl, rfl⟩)
      | (go_at_call 83; refine (Base.impl_isAmount_no _ _ (by omega)).mono ?_; rintro e w' ⟨rfl, rfl⟩)
      | (go_at_call 94; refine (Base.spec_l04Loan_yes _ _ _ _ (by omega) (by omega) (by omega) (by omega) (by omega) (by omega)).mono ?_; rintro e w' ⟨rfl, rfl⟩)
      | (go_at_call 94; refine (Base.spec_l04Loan_no _ _ _ _ (by omega)).mono ?_; rintro e w' ⟨rfl, rfl⟩)
      | (go_at_call 92; refine (Base.impl_isLoan_yes _ _ _ _ (by omega) (by omega) (by omega) (by omega) (by omega) (by omega)).mono ?_; rintro e w' ⟨rfl, rfl⟩)
      | (go_at_call 92; refine (Base.impl_isLoan_no _ _ _ _ (by omega)).mono ?_; rintro e w' ⟨rfl, rfl⟩)
     )
    go_ret2
    exact ⟨rfl, hb1⟩
  · have hno : within 0 1000000000 xs = false ∨ (120 : Int) < (xs.length : Int) := by
      cases hw : within 0 1000000000 xs with
      | false => exact .inl rfl
      | true => exact .inr (by have := mt (fun h => And.intro hw h) hc; omega)
    have HN := Lib.hid hno
    clear hno hc hbad
    go_enter Try.func58, Try.ntmps58
    go_wp2_with (first
      | (go_at_call 101; refine (Lists.l01Within_no _ _ _ _ _ _ HR.out HN.out).mono ?_; rintro e w1 ⟨rfl, hb1⟩)
      | (go_at_call 65; refine (Base.l01In_yes _ _ _ _ (by omega) (by omega)).mono ?_; rintro e w' ⟨rfl, rfl⟩)
      | (go_at_call 65; refine (Base.l01In_no _ _ _ _ (by omega)).mono ?_; rintro e w' ⟨rfl, rfl⟩)
      | (go_at_call 63; refine (Base.inRange_yes _ _ _ _ (by omega) (by omega)).mono ?_; rintro e w' ⟨rfl, rfl⟩)
      | (go_at_call 63; refine (Base.inRange_no _ _ _ _ (by omega)).mono ?_; rintro e w' ⟨rfl, rfl⟩)
      | (go_at_call 70; refine (Base.spec_l01Money_yes _ _ (by omega) (by omega)).mono ?_; rintro e w' ⟨rfl, rfl⟩)
      | (go_at_call 70; refine (Base.spec_l01Money_no _ _ (by omega)).mono ?_; rintro e w' ⟨rfl, rfl⟩)
      | (go_at_call 68; refine (Base.impl_isMoney_yes _ _ (by omega) (by omega)).mono ?_; rintro e w' ⟨rfl, rfl⟩)
      | (go_at_call 68; refine (Base.impl_isMoney_no _ _ (by omega)).mono ?_; rintro e w' ⟨rfl, rfl⟩)
      | (go_at_call 79; refine (Base.spec_l02Month_yes _ _ (by omega) (by omega)).mono ?_; rintro e w' ⟨rfl, rfl⟩)
      | (go_at_call 79; refine (Base.spec_l02Month_no _ _ (by omega)).mono ?_; rintro e w' ⟨rfl, rfl⟩)
      | (go_at_call 78; refine (Base.impl_isMonth_yes _ _ (by omega) (by omega)).mono ?_; rintro e w' ⟨rfl, rfl⟩)
      | (go_at_call 78; refine (Base.impl_isMonth_no _ _ (by omega)).mono ?_; rintro e w' ⟨rfl, rfl⟩)
      | (go_at_call 90; refine (Base.spec_l04Rate_yes _ _ (by omega) (by omega)).mono ?_; rintro e w' ⟨rfl, rfl⟩)
      | (go_at_call 90; refine (Base.spec_l04Rate_no _ _ (by omega)).mono ?_; rintro e w' ⟨rfl, rfl⟩)
      | (go_at_call 89; refine (Base.impl_isRate_yes _ _ (by omega) (by omega)).mono ?_; rintro e w' ⟨rfl, rfl⟩)
      | (go_at_call 89; refine (Base.impl_isRate_no _ _ (by omega)).mono ?_; rintro e w' ⟨rfl, rfl⟩)
      | (go_at_call 84; refine (Base.impl_isYears_yes _ _ (by omega) (by omega)).mono ?_; rintro e w' ⟨rfl, rfl⟩)
      | (go_at_call 84; refine (Base.impl_isYears_no _ _ (by omega)).mono ?_; rintro e w' ⟨rfl, rfl⟩)
      | (go_at_call 86; refine (Base.spec_l04Amount_yes _ _ (by omega) (by omega)).mono ?_; rintro e w' ⟨rfl, rfl⟩)
      | (go_at_call 86; refine (Base.spec_l04Amount_no _ _ (by omega)).mono ?_; rintro e w' ⟨rfl, rfl⟩)
      | (go_at_call 83; refine (Base.impl_isAmount_yes _ _ (by omega) (by omega)).mono ?_; rintro e w' ⟨rfl, rfl⟩)
      | (go_at_call 83; refine (Base.impl_isAmount_no _ _ (by omega)).mono ?_; rintro e w' ⟨rfl, rfl⟩)
      | (go_at_call 94; refine (Base.spec_l04Loan_yes _ _ _ _ (by omega) (by omega) (by omega) (by omega) (by omega) (by omega)).mono ?_; rintro e w' ⟨rfl, rfl⟩)
      | (go_at_call 94; refine (Base.spec_l04Loan_no _ _ _ _ (by omega)).mono ?_; rintro e w' ⟨rfl, rfl⟩)
      | (go_at_call 92; refine (Base.impl_isLoan_yes _ _ _ _ (by omega) (by omega) (by omega) (by omega) (by omega) (by omega)).mono ?_; rintro e w' ⟨rfl, rfl⟩)
      | (go_at_call 92; refine (Base.impl_isLoan_no _ _ _ _ (by omega)).mono ?_; rintro e w' ⟨rfl, rfl⟩)
     )
    go_ret2
    exact ⟨rfl, hb1⟩

end Go.Proofs.Ytdafgpikgpobbaa.Present
