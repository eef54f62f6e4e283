/-
  Contracts of SumOf of both packages.
  Conditions: the slice reads as a list (Mem.Rd).
-/
import Derived.Test.YtmngljpncglchaaDoorLists
namespace Go.Proofs.YtmngljpncglchaaDoor.Sums
open Go.RowKit Mem
set_option linter.unusedVariables false

def ok (xs : List Int) : Bool := within (-1000000000000) 1000000000000 xs && decide (xs.length ≤ 130)
def small (xs : List Int) : Bool := decide (-1000000000000 ≤ xs.sum ∧ xs.sum ≤ 1000000000000)
def sumV (xs : List Int) : Int := if ok xs then (if small xs then xs.sum else 0) else 0
def sumC (xs : List Int) : Int := if ok xs then (if small xs then 0 else 3) else 2
theorem ok_parts {xs : List Int} (h : ok xs = true) : within (-1000000000000) 1000000000000 xs = true ∧ xs.length ≤ 130 := by
  simpa [ok] using h
theorem ok_not {xs : List Int} (h : ¬ ok xs = true) : within (-1000000000000) 1000000000000 xs = false ∨ 130 < xs.length := by
  cases hw : within (-1000000000000) 1000000000000 xs with
  | false => exact .inl rfl
  | true => right; simp [ok, hw] at h; omega
theorem sum_le {xs : List Int} (h : ok xs = true) : -130000000000000 ≤ xs.sum ∧ xs.sum ≤ 130000000000000 := by
  obtain ⟨h1, h2⟩ := ok_parts h
  have := sum_bd 1000000000000 (by omega) xs h1 xs.length (Nat.le_refl _)
  rw [List.take_length] at this
  omega

set_option maxHeartbeats 400000 in
theorem specSumOf_any (v : Value) (xs : List Int) (w : World) (h : Rd w v xs) :
    Calls Tryd.prog 23 #[v] w fun e w' => e = .returned (.tuple #[.int .i64 (sumV xs), .int .i64 (sumC xs)]) ∧ Below w.heap.size w w' := by
  obtain ⟨a, c, rfl, hn⟩ := rd_shape h
  have HR := Lib.hid h
  clear h
  by_cases hk : ok xs = true
  · obtain ⟨hw, hl⟩ := ok_parts hk
    obtain ⟨s1, s2⟩ := sum_le hk
    have HW := Lib.hid hw
    clear hw
    by_cases hs : small xs = true
    · have hs' : -1000000000000 ≤ xs.sum ∧ xs.sum ≤ 1000000000000 := by simpa [small] using hs
      obtain ⟨m1, m2⟩ := hs'
      have V : Hid (sumV xs = xs.sum) := by unfold sumV; rw [if_pos hk, if_pos hs]; rfl
      have C : Hid (sumC xs = 0) := by unfold sumC; rw [if_pos hk, if_pos hs]; rfl
      clear hk hs
      go_enter Tryd.func23, Tryd.ntmps23
      go_wp2_with fail
      refine (Lists.l01Within_yes _ xs _ _ _ _ HR.out HW.out (by omega)).mono ?_; rintro e w1 ⟨rfl, hb1⟩
      go_wp2_with (first
      | (go_at_call 77; refine (Lists.l01Sum_any _ xs _ (HR.out.below hb1) 1000000000000 (by omega) HW.out (by omega)).mono ?_; rintro e w2 ⟨rfl, hb2⟩)
      | (go_at_call 98; refine (Base.l01In_yes _ _ _ _ (by omega) (by omega)).mono ?_; rintro e w' ⟨rfl, rfl⟩)
      | (go_at_call 98; refine (Base.l01In_no _ _ _ _ (by omega)).mono ?_; rintro e w' ⟨rfl, rfl⟩)
      | (go_at_call 97; refine (Base.inRange_yes _ _ _ _ (by omega) (by omega)).mono ?_; rintro e w' ⟨rfl, rfl⟩)
      | (go_at_call 97; refine (Base.inRange_no _ _ _ _ (by omega)).mono ?_; rintro e w' ⟨rfl, rfl⟩)
      | (go_at_call 73; refine (Base.spec_l01Money_yes _ _ (by omega) (by omega)).mono ?_; rintro e w' ⟨rfl, rfl⟩)
      | (go_at_call 73; refine (Base.spec_l01Money_no _ _ (by omega)).mono ?_; rintro e w' ⟨rfl, rfl⟩)
      | (go_at_call 68; refine (Base.impl_isMoney_yes _ _ (by omega) (by omega)).mono ?_; rintro e w' ⟨rfl, rfl⟩)
      | (go_at_call 68; refine (Base.impl_isMoney_no _ _ (by omega)).mono ?_; rintro e w' ⟨rfl, rfl⟩)
      | (go_at_call 79; refine (Base.spec_l02Month_yes _ _ (by omega) (by omega)).mono ?_; rintro e w' ⟨rfl, rfl⟩)
      | (go_at_call 79; refine (Base.spec_l02Month_no _ _ (by omega)).mono ?_; rintro e w' ⟨rfl, rfl⟩)
      | (go_at_call 81; refine (Base.impl_isMonth_yes _ _ (by omega) (by omega)).mono ?_; rintro e w' ⟨rfl, rfl⟩)
      | (go_at_call 81; refine (Base.impl_isMonth_no _ _ (by omega)).mono ?_; rintro e w' ⟨rfl, rfl⟩)
     )
      go_ret2
      exact ⟨Base.ret_ii V.out.symm C.out.symm, bl hb1 hb2⟩
    · have hs' : xs.sum < -1000000000000 ∨ 1000000000000 < xs.sum := by
        have : ¬ (-1000000000000 ≤ xs.sum ∧ xs.sum ≤ 1000000000000) := by simpa [small] using hs
        omega
      have V : Hid (sumV xs = 0) := by unfold sumV; rw [if_pos hk, if_neg hs]; rfl
      have C : Hid (sumC xs = 3) := by unfold sumC; rw [if_pos hk, if_neg hs]; rfl
      clear hk hs
      go_enter Tryd.func23, Tryd.ntmps23
      go_wp2_with fail
      refine (Lists.l01Within_yes _ xs _ _ _ _ HR.out HW.out (by omega)).mono ?_; rintro e w1 ⟨rfl, hb1⟩
      go_wp2_with (first
      | (go_at_call 77; refine (Lists.l01Sum_any _ xs _ (HR.out.below hb1) 1000000000000 (by omega) HW.out (by omega)).mono ?_; rintro e w2 ⟨rfl, hb2⟩)
      | (go_at_call 98; refine (Base.l01In_yes _ _ _ _ (by omega) (by omega)).mono ?_; rintro e w' ⟨rfl, rfl⟩)
      | (go_at_call 98; refine (Base.l01In_no _ _ _ _ (by omega)).mono ?_; rintro e w' ⟨rfl, rfl⟩)
      | (go_at_call 97; refine (Base.inRange_yes _ _ _ _ (by omega) (by omega)).mono ?_; rintro e w' ⟨rfl, rfl⟩)
      | (go_at_call 97; refine (Base.inRange_no _ _ _ _ (by omega)).mono ?_; rintro e w' ⟨rfl, rfl⟩)
      | (go_at_call 73; refine (Base.spec_l01Money_yes _ _ (by omega) (by omega)).mono ?_; rintro e w' ⟨rfl, rfl⟩)
      | (go_at_call 73; refine (Base.spec_l01Money_no _ _ (by omega)).mono ?_; rintro e w' ⟨rfl, rfl⟩)
      | (go_at_call 68; refine (Base.impl_isMoney_yes _ _ (by omega) (by omega)).mono ?_; rintro e w' ⟨rfl, rfl⟩)
      | (go_at_call 68; refine (Base.impl_isMoney_no _ _ (by omega)).mono ?_; rintro e w' ⟨rfl, rfl⟩)
      | (go_at_call 79; refine (Base.spec_l02Month_yes _ _ (by omega) (by omega)).mono ?_; rintro e w' ⟨rfl, rfl⟩)
      | (go_at_call 79; refine (Base.spec_l02Month_no _ _ (by omega)).mono ?_; rintro e w' ⟨rfl, rfl⟩)
      | (go_at_call 81; refine (Base.impl_isMonth_yes _ _ (by omega) (by omega)).mono ?_; rintro e w' ⟨rfl, rfl⟩)
      | (go_at_call 81; refine (Base.impl_isMonth_no _ _ (by omega)).mono ?_; rintro e w' ⟨rfl, rfl⟩)
     )
      go_ret2
      exact ⟨Base.ret_ii V.out.symm C.out.symm, bl hb1 hb2⟩
  · have hbad := ok_not hk
    have V : Hid (sumV xs = 0) := by unfold sumV; rw [if_neg hk]; rfl
    have C : Hid (sumC xs = 2) := by unfold sumC; rw [if_neg hk]; rfl
    clear hk
    have hno : within (-1000000000000) 1000000000000 xs = false ∨ (130 : Int) < (xs.length : Int) := by
      rcases hbad with h | h
      · exact .inl h
      · exact .inr (by omega)
    have HN := Lib.hid hno
    clear hbad hno
    go_enter Tryd.func23, Tryd.ntmps23
    go_wp2_with fail
    refine (Lists.l01Within_no _ xs _ _ _ _ HR.out HN.out).mono ?_; rintro e w1 ⟨rfl, hb1⟩
    go_wp2
    go_ret2
    exact ⟨Base.ret_ii V.out.symm C.out.symm, hb1⟩

set_option maxHeartbeats 400000 in
theorem implSumOf_any (v : Value) (xs : List Int) (w : World) (h : Rd w v xs) :
    Calls Tryd.prog 22 #[v] w fun e w' => e = .returned (.tuple #[.int .i64 (sumV xs), .int .i64 (sumC xs)]) ∧ Below w.heap.size w w' := by
  obtain ⟨a, c, rfl, hn⟩ := rd_shape h
  have HR := Lib.hid h
  clear h
  by_cases hk : ok xs = true
  · obtain ⟨hw, hl⟩ := ok_parts hk
    obtain ⟨s1, s2⟩ := sum_le hk
    have HW := Lib.hid hw
    clear hw
    by_cases hs : small xs = true
    · have hs' : -1000000000000 ≤ xs.sum ∧ xs.sum ≤ 1000000000000 := by simpa [small] using hs
      obtain ⟨m1, m2⟩ := hs'
      have V : Hid (sumV xs = xs.sum) := by unfold sumV; rw [if_pos hk, if_pos hs]; rfl
      have C : Hid (sumC xs = 0) := by unfold sumC; rw [if_pos hk, if_pos hs]; rfl
      clear hk hs
      go_enter Tryd.func22, Tryd.ntmps22
      go_wp2_with fail
      refine (Lists.allIn_any _ xs _ _ _ HR.out).mono ?_; rintro e w1 ⟨rfl, hb1⟩; rw [HW.out]
      go_wp2_with fail
      refine (Lists.total_any _ xs _ (HR.out.below hb1) 1000000000000 (by omega) HW.out (by omega)).mono ?_; rintro e w2 ⟨rfl, hb2⟩
      go_wp2_with (first
      | (go_at_call 75; refine (Lists.total_any _ xs _ ((HR.out.below hb1).below hb2) 1000000000000 (by omega) HW.out (by omega)).mono ?_; rintro e w3 ⟨rfl, hb3⟩)
      | (go_at_call 98; refine (Base.l01In_yes _ _ _ _ (by omega) (by omega)).mono ?_; rintro e w' ⟨rfl, rfl⟩)
      | (go_at_call 98; refine (Base.l01In_no _ _ _ _ (by omega)).mono ?_; rintro e w' ⟨rfl, rfl⟩)
      | (go_at_call 97; refine (Base.inRange_yes _ _ _ _ (by omega) (by omega)).mono ?_; rintro e w' ⟨rfl, rfl⟩)
      | (go_at_call 97; refine (Base.inRange_no _ _ _ _ (by omega)).mono ?_; rintro e w' ⟨rfl, rfl⟩)
      | (go_at_call 73; refine (Base.spec_l01Money_yes _ _ (by omega) (by omega)).mono ?_; rintro e w' ⟨rfl, rfl⟩)
      | (go_at_call 73; refine (Base.spec_l01Money_no _ _ (by omega)).mono ?_; rintro e w' ⟨rfl, rfl⟩)
      | (go_at_call 68; refine (Base.impl_isMoney_yes _ _ (by omega) (by omega)).mono ?_; rintro e w' ⟨rfl, rfl⟩)
      | (go_at_call 68; refine (Base.impl_isMoney_no _ _ (by omega)).mono ?_; rintro e w' ⟨rfl, rfl⟩)
      | (go_at_call 79; refine (Base.spec_l02Month_yes _ _ (by omega) (by omega)).mono ?_; rintro e w' ⟨rfl, rfl⟩)
      | (go_at_call 79; refine (Base.spec_l02Month_no _ _ (by omega)).mono ?_; rintro e w' ⟨rfl, rfl⟩)
      | (go_at_call 81; refine (Base.impl_isMonth_yes _ _ (by omega) (by omega)).mono ?_; rintro e w' ⟨rfl, rfl⟩)
      | (go_at_call 81; refine (Base.impl_isMonth_no _ _ (by omega)).mono ?_; rintro e w' ⟨rfl, rfl⟩)
     )
      go_ret2
      exact ⟨Base.ret_ii V.out.symm C.out.symm, bl (bl hb1 hb2) hb3⟩
    · have hs' : xs.sum < -1000000000000 ∨ 1000000000000 < xs.sum := by
        have : ¬ (-1000000000000 ≤ xs.sum ∧ xs.sum ≤ 1000000000000) := by simpa [small] using hs
        omega
      have V : Hid (sumV xs = 0) := by unfold sumV; rw [if_pos hk, if_neg hs]; rfl
      have C : Hid (sumC xs = 3) := by unfold sumC; rw [if_pos hk, if_neg hs]; rfl
      clear hk hs
      go_enter Tryd.func22, Tryd.ntmps22
      go_wp2_with fail
      refine (Lists.allIn_any _ xs _ _ _ HR.out).mono ?_; rintro e w1 ⟨rfl, hb1⟩; rw [HW.out]
      go_wp2_with (first
      | (go_at_call 75; refine (Lists.total_any _ xs _ (HR.out.below hb1) 1000000000000 (by omega) HW.out (by omega)).mono ?_; rintro e w2 ⟨rfl, hb2⟩)
      | (go_at_call 98; refine (Base.l01In_yes _ _ _ _ (by omega) (by omega)).mono ?_; rintro e w' ⟨rfl, rfl⟩)
      | (go_at_call 98; refine (Base.l01In_no _ _ _ _ (by omega)).mono ?_; rintro e w' ⟨rfl, rfl⟩)
      | (go_at_call 97; refine (Base.inRange_yes _ _ _ _ (by omega) (by omega)).mono ?_; rintro e w' ⟨rfl, rfl⟩)
      | (go_at_call 97; refine (Base.inRange_no _ _ _ _ (by omega)).mono ?_; rintro e w' ⟨rfl, rfl⟩)
      | (go_at_call 73; refine (Base.spec_l01Money_yes _ _ (by omega) (by omega)).mono ?_; rintro e w' ⟨rfl, rfl⟩)
      | (go_at_call 73; refine (Base.spec_l01Money_no _ _ (by omega)).mono ?_; rintro e w' ⟨rfl, rfl⟩)
      | (go_at_call 68; refine (Base.impl_isMoney_yes _ _ (by omega) (by omega)).mono ?_; rintro e w' ⟨rfl, rfl⟩)
      | (go_at_call 68; refine (Base.impl_isMoney_no _ _ (by omega)).mono ?_; rintro e w' ⟨rfl, rfl⟩)
      | (go_at_call 79; refine (Base.spec_l02Month_yes _ _ (by omega) (by omega)).mono ?_; rintro e w' ⟨rfl, rfl⟩)
      | (go_at_call 79; refine (Base.spec_l02Month_no _ _ (by omega)).mono ?_; rintro e w' ⟨rfl, rfl⟩)
      | (go_at_call 81; refine (Base.impl_isMonth_yes _ _ (by omega) (by omega)).mono ?_; rintro e w' ⟨rfl, rfl⟩)
      | (go_at_call 81; refine (Base.impl_isMonth_no _ _ (by omega)).mono ?_; rintro e w' ⟨rfl, rfl⟩)
     )
      go_ret2
      exact ⟨Base.ret_ii V.out.symm C.out.symm, bl hb1 hb2⟩
  · have hbad := ok_not hk
    have V : Hid (sumV xs = 0) := by unfold sumV; rw [if_neg hk]; rfl
    have C : Hid (sumC xs = 2) := by unfold sumC; rw [if_neg hk]; rfl
    clear hk
    by_cases hl : 130 < xs.length
    · clear hbad
      go_enter Tryd.func22, Tryd.ntmps22
      go_wp2
      go_ret2
      exact ⟨Base.ret_ii V.out.symm C.out.symm, Below.refl _ _⟩
    · have HW := Lib.hid (hbad.resolve_right hl)
      clear hbad
      go_enter Tryd.func22, Tryd.ntmps22
      go_wp2_with fail
      refine (Lists.allIn_any _ xs _ _ _ HR.out).mono ?_; rintro e w1 ⟨rfl, hb1⟩; rw [HW.out]
      go_wp2
      go_ret2
      exact ⟨Base.ret_ii V.out.symm C.out.symm, hb1⟩

end Go.Proofs.YtmngljpncglchaaDoor.Sums
