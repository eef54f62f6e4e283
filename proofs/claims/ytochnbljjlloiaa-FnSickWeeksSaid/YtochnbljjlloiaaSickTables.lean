/-
  Contracts of IsSickTable, WeeksAt and WorstAge of both packages.
  Conditions: the slice of the table reads as a list (Mem.Rd); first age and age fit int64.
-/
import Derived.Test.YtochnbljjlloiaaGreatest
namespace Go.Proofs.Ytochnbljjlloiaa.SickTables
open Go.RowKit Mem
set_option linter.unusedVariables false

def skB (f : Int) (xs : List Int) : Bool := decide (0 ≤ f ∧ f ≤ 100) && (decide (1 ≤ xs.length ∧ xs.length ≤ 120) && within 0 52000 xs)
theorem skB_of {f : Int} {xs : List Int} (h : skB f xs = true) : (0 ≤ f ∧ f ≤ 100) ∧ (1 ≤ xs.length ∧ xs.length ≤ 120) ∧ within 0 52000 xs = true := by
  simpa [skB] using h
theorem skB_f {f : Int} {xs : List Int} (h : ¬ (0 ≤ f ∧ f ≤ 100)) : skB f xs = false := by unfold skB; rw [decide_eq_false h]; rfl
theorem skB_n {f : Int} {xs : List Int} (h : ¬ (1 ≤ xs.length ∧ xs.length ≤ 120)) : skB f xs = false := by unfold skB; rw [decide_eq_false h, Bool.false_and, Bool.and_false]
theorem skB_w {f : Int} {xs : List Int} (h : within 0 52000 xs = false) : skB f xs = false := by unfold skB; rw [h, Bool.and_false, Bool.and_false]
theorem skB_yes {f : Int} {xs : List Int} (h : 0 ≤ f ∧ f ≤ 100) (g : 1 ≤ xs.length ∧ xs.length ≤ 120) : skB f xs = within 0 52000 xs := by unfold skB; rw [decide_eq_true h, decide_eq_true g]; rfl
theorem rd_alloc {w : World} {v : Value} {xs : List Int} (h : Rd w v xs) : ∀ o, Rd (w.alloc o) v xs := fun o => h.below (b0 w o)

set_option maxHeartbeats 400000 in
theorem specIsSickTable_any (f : Int) (v : Value) (xs : List Int) (w : World) (h : Rd w v xs) :
    Calls Try.prog 25 #[.agg #[.int .i64 f, v]] w fun e w' => e = .returned (.bool (skB f xs)) ∧ Below w.heap.size w w' := by
  obtain ⟨a, c, rfl, hn⟩ := rd_shape h
  have HR := Lib.hid (rd_alloc h)
  clear h
  by_cases h1 : 0 ≤ f ∧ f ≤ 100
  case neg =>
    have HN := Lib.hid (skB_f (xs := xs) h1)
    have h1' : f < 0 ∨ 100 < f := by omega
    clear h1
    go_enter Try.func25, Try.ntmps25
    go_wp2_with (first
      | (go_at_call 58; refine (Base.l01In_yes _ _ _ _ (by omega) (by omega)).mono ?_; rintro e w' ⟨rfl, rfl⟩)
      | (go_at_call 58; refine (Base.l01In_no _ _ _ _ (by omega)).mono ?_; rintro e w' ⟨rfl, rfl⟩)
      | (go_at_call 60; refine (Base.inRange_yes _ _ _ _ (by omega) (by omega)).mono ?_; rintro e w' ⟨rfl, rfl⟩)
      | (go_at_call 60; refine (Base.inRange_no _ _ _ _ (by omega)).mono ?_; rintro e w' ⟨rfl, rfl⟩)
      | (go_at_call 63; refine (Base.spec_l01Money_yes _ _ (by omega) (by omega)).mono ?_; rintro e w' ⟨rfl, rfl⟩)
      | (go_at_call 63; refine (Base.spec_l01Money_no _ _ (by omega)).mono ?_; rintro e w' ⟨rfl, rfl⟩)
      | (go_at_call 65; refine (Base.impl_isMoney_yes _ _ (by omega) (by omega)).mono ?_; rintro e w' ⟨rfl, rfl⟩)
      | (go_at_call 65; refine (Base.impl_isMoney_no _ _ (by omega)).mono ?_; rintro e w' ⟨rfl, rfl⟩)
      | (go_at_call 67; refine (Base.spec_l04Rate_yes _ _ (by omega) (by omega)).mono ?_; rintro e w' ⟨rfl, rfl⟩)
      | (go_at_call 67; refine (Base.spec_l04Rate_no _ _ (by omega)).mono ?_; rintro e w' ⟨rfl, rfl⟩)
      | (go_at_call 68; refine (Base.impl_isRate_yes _ _ (by omega) (by omega)).mono ?_; rintro e w' ⟨rfl, rfl⟩)
      | (go_at_call 68; refine (Base.impl_isRate_no _ _ (by omega)).mono ?_; rintro e w' ⟨rfl, rfl⟩)
      | (go_at_call 59; refine (Lists.length_any _ _ _ _ (by omega)).mono ?_; rintro e w' ⟨rfl, rfl⟩)
     )
    go_ret
    exact ⟨Base.ret_bool HN.out.symm, b0 _ _⟩
  have h1k := Lib.hid h1
  obtain ⟨f1, f2⟩ := h1
  by_cases h2 : 1 ≤ xs.length
  case neg =>
    have HN := Lib.hid (skB_n (f := f) (xs := xs) (fun q => h2 q.1))
    have h2' : (xs.length : Int) < 1 := by omega
    have hd : decide (1 ≤ (xs.length : Int)) = false := by simp; omega
    clear h2
    go_enter Try.func25, Try.ntmps25
    go_wp2_with (first
      | (go_at_call 58; refine (Base.l01In_yes _ _ _ _ (by omega) (by omega)).mono ?_; rintro e w' ⟨rfl, rfl⟩)
      | (go_at_call 58; refine (Base.l01In_no _ _ _ _ (by omega)).mono ?_; rintro e w' ⟨rfl, rfl⟩)
      | (go_at_call 60; refine (Base.inRange_yes _ _ _ _ (by omega) (by omega)).mono ?_; rintro e w' ⟨rfl, rfl⟩)
      | (go_at_call 60; refine (Base.inRange_no _ _ _ _ (by omega)).mono ?_; rintro e w' ⟨rfl, rfl⟩)
      | (go_at_call 63; refine (Base.spec_l01Money_yes _ _ (by omega) (by omega)).mono ?_; rintro e w' ⟨rfl, rfl⟩)
      | (go_at_call 63; refine (Base.spec_l01Money_no _ _ (by omega)).mono ?_; rintro e w' ⟨rfl, rfl⟩)
      | (go_at_call 65; refine (Base.impl_isMoney_yes _ _ (by omega) (by omega)).mono ?_; rintro e w' ⟨rfl, rfl⟩)
      | (go_at_call 65; refine (Base.impl_isMoney_no _ _ (by omega)).mono ?_; rintro e w' ⟨rfl, rfl⟩)
      | (go_at_call 67; refine (Base.spec_l04Rate_yes _ _ (by omega) (by omega)).mono ?_; rintro e w' ⟨rfl, rfl⟩)
      | (go_at_call 67; refine (Base.spec_l04Rate_no _ _ (by omega)).mono ?_; rintro e w' ⟨rfl, rfl⟩)
      | (go_at_call 68; refine (Base.impl_isRate_yes _ _ (by omega) (by omega)).mono ?_; rintro e w' ⟨rfl, rfl⟩)
      | (go_at_call 68; refine (Base.impl_isRate_no _ _ (by omega)).mono ?_; rintro e w' ⟨rfl, rfl⟩)
      | (go_at_call 59; refine (Lists.length_any _ _ _ _ (by omega)).mono ?_; rintro e w' ⟨rfl, rfl⟩)
     )
    go_ret
    exact ⟨Base.ret_bool HN.out.symm, b0 _ _⟩
  by_cases h3 : xs.length ≤ 120
  case neg =>
    have HN := Lib.hid (skB_n (f := f) (xs := xs) (fun q => h3 q.2))
    have h3' : 120 < (xs.length : Int) := by omega
    have hd : decide (1 ≤ (xs.length : Int)) = true := by simp; omega
    have hd2 : Hid (decide ((xs.length : Int) ≤ 120) = false) := by show _ = _; simp; omega
    clear h3
    go_enter Try.func25, Try.ntmps25
    go_wp2_with (first
      | (go_at_call 61; refine (Lists.l01Within_any _ xs _ _ _ _ (HR.out _)).mono ?_; rintro e w1 ⟨rfl, hb1⟩; rw [hd2.out, Bool.and_false])
      | (go_at_call 58; refine (Base.l01In_yes _ _ _ _ (by omega) (by omega)).mono ?_; rintro e w' ⟨rfl, rfl⟩)
      | (go_at_call 58; refine (Base.l01In_no _ _ _ _ (by omega)).mono ?_; rintro e w' ⟨rfl, rfl⟩)
      | (go_at_call 60; refine (Base.inRange_yes _ _ _ _ (by omega) (by omega)).mono ?_; rintro e w' ⟨rfl, rfl⟩)
      | (go_at_call 60; refine (Base.inRange_no _ _ _ _ (by omega)).mono ?_; rintro e w' ⟨rfl, rfl⟩)
      | (go_at_call 63; refine (Base.spec_l01Money_yes _ _ (by omega) (by omega)).mono ?_; rintro e w' ⟨rfl, rfl⟩)
      | (go_at_call 63; refine (Base.spec_l01Money_no _ _ (by omega)).mono ?_; rintro e w' ⟨rfl, rfl⟩)
      | (go_at_call 65; refine (Base.impl_isMoney_yes _ _ (by omega) (by omega)).mono ?_; rintro e w' ⟨rfl, rfl⟩)
      | (go_at_call 65; refine (Base.impl_isMoney_no _ _ (by omega)).mono ?_; rintro e w' ⟨rfl, rfl⟩)
      | (go_at_call 67; refine (Base.spec_l04Rate_yes _ _ (by omega) (by omega)).mono ?_; rintro e w' ⟨rfl, rfl⟩)
      | (go_at_call 67; refine (Base.spec_l04Rate_no _ _ (by omega)).mono ?_; rintro e w' ⟨rfl, rfl⟩)
      | (go_at_call 68; refine (Base.impl_isRate_yes _ _ (by omega) (by omega)).mono ?_; rintro e w' ⟨rfl, rfl⟩)
      | (go_at_call 68; refine (Base.impl_isRate_no _ _ (by omega)).mono ?_; rintro e w' ⟨rfl, rfl⟩)
      | (go_at_call 59; refine (Lists.length_any _ _ _ _ (by omega)).mono ?_; rintro e w' ⟨rfl, rfl⟩)
     )
    go_ret
    exact ⟨Base.ret_bool HN.out.symm, bl (b0 _ _) hb1⟩
  have HY := Lib.hid (skB_yes (f := f) (xs := xs) h1k.out ⟨h2, h3⟩)
  have hd : decide (1 ≤ (xs.length : Int)) = true := by simp; omega
  have hd2 : Hid (decide ((xs.length : Int) ≤ 120) = true) := by show _ = _; simp; omega
  go_enter Try.func25, Try.ntmps25
  go_wp2_with (first
      | (go_at_call 61; refine (Lists.l01Within_any _ xs _ _ _ _ (HR.out _)).mono ?_; rintro e w1 ⟨rfl, hb1⟩; rw [hd2.out, Bool.and_true])
      | (go_at_call 58; refine (Base.l01In_yes _ _ _ _ (by omega) (by omega)).mono ?_; rintro e w' ⟨rfl, rfl⟩)
      | (go_at_call 58; refine (Base.l01In_no _ _ _ _ (by omega)).mono ?_; rintro e w' ⟨rfl, rfl⟩)
      | (go_at_call 60; refine (Base.inRange_yes _ _ _ _ (by omega) (by omega)).mono ?_; rintro e w' ⟨rfl, rfl⟩)
      | (go_at_call 60; refine (Base.inRange_no _ _ _ _ (by omega)).mono ?_; rintro e w' ⟨rfl, rfl⟩)
      | (go_at_call 63; refine (Base.spec_l01Money_yes _ _ (by omega) (by omega)).mono ?_; rintro e w' ⟨rfl, rfl⟩)
      | (go_at_call 63; refine (Base.spec_l01Money_no _ _ (by omega)).mono ?_; rintro e w' ⟨rfl, rfl⟩)
      | (go_at_call 65; refine (Base.impl_isMoney_yes _ _ (by omega) (by omega)).mono ?_; rintro e w' ⟨rfl, rfl⟩)
      | (go_at_call 65; refine (Base.impl_isMoney_no _ _ (by omega)).mono ?_; rintro e w' ⟨rfl, rfl⟩)
      | (go_at_call 67; refine (Base.spec_l04Rate_yes _ _ (by omega) (by omega)).mono ?_; rintro e w' ⟨rfl, rfl⟩)
      | (go_at_call 67; refine (Base.spec_l04Rate_no _ _ (by omega)).mono ?_; rintro e w' ⟨rfl, rfl⟩)
      | (go_at_call 68; refine (Base.impl_isRate_yes _ _ (by omega) (by omega)).mono ?_; rintro e w' ⟨rfl, rfl⟩)
      | (go_at_call 68; refine (Base.impl_isRate_no _ _ (by omega)).mono ?_; rintro e w' ⟨rfl, rfl⟩)
      | (go_at_call 59; refine (Lists.length_any _ _ _ _ (by omega)).mono ?_; rintro e w' ⟨rfl, rfl⟩)
     )
  go_ret
  exact ⟨Base.ret_bool HY.out.symm, bl (b0 _ _) hb1⟩

set_option maxHeartbeats 400000 in
theorem implIsSickTable_any (f : Int) (v : Value) (xs : List Int) (w : World) (h : Rd w v xs) :
    Calls Try.prog 27 #[.agg #[.int .i64 f, v]] w fun e w' => e = .returned (.bool (skB f xs)) ∧ Below w.heap.size w w' := by
  obtain ⟨a, c, rfl, hn⟩ := rd_shape h
  have HR := Lib.hid (rd_alloc h)
  clear h
  by_cases h1 : 0 ≤ f ∧ f ≤ 100
  case neg =>
    have HN := Lib.hid (skB_f (xs := xs) h1)
    have h1' : f < 0 ∨ 100 < f := by omega
    clear h1
    go_enter Try.func27, Try.ntmps27
    go_wp2_with (first
      | (go_at_call 58; refine (Base.l01In_yes _ _ _ _ (by omega) (by omega)).mono ?_; rintro e w' ⟨rfl, rfl⟩)
      | (go_at_call 58; refine (Base.l01In_no _ _ _ _ (by omega)).mono ?_; rintro e w' ⟨rfl, rfl⟩)
      | (go_at_call 60; refine (Base.inRange_yes _ _ _ _ (by omega) (by omega)).mono ?_; rintro e w' ⟨rfl, rfl⟩)
      | (go_at_call 60; refine (Base.inRange_no _ _ _ _ (by omega)).mono ?_; rintro e w' ⟨rfl, rfl⟩)
      | (go_at_call 63; refine (Base.spec_l01Money_yes _ _ (by omega) (by omega)).mono ?_; rintro e w' ⟨rfl, rfl⟩)
      | (go_at_call 63; refine (Base.spec_l01Money_no _ _ (by omega)).mono ?_; rintro e w' ⟨rfl, rfl⟩)
      | (go_at_call 65; refine (Base.impl_isMoney_yes _ _ (by omega) (by omega)).mono ?_; rintro e w' ⟨rfl, rfl⟩)
      | (go_at_call 65; refine (Base.impl_isMoney_no _ _ (by omega)).mono ?_; rintro e w' ⟨rfl, rfl⟩)
      | (go_at_call 67; refine (Base.spec_l04Rate_yes _ _ (by omega) (by omega)).mono ?_; rintro e w' ⟨rfl, rfl⟩)
      | (go_at_call 67; refine (Base.spec_l04Rate_no _ _ (by omega)).mono ?_; rintro e w' ⟨rfl, rfl⟩)
      | (go_at_call 68; refine (Base.impl_isRate_yes _ _ (by omega) (by omega)).mono ?_; rintro e w' ⟨rfl, rfl⟩)
      | (go_at_call 68; refine (Base.impl_isRate_no _ _ (by omega)).mono ?_; rintro e w' ⟨rfl, rfl⟩)
      | (go_at_call 59; refine (Lists.length_any _ _ _ _ (by omega)).mono ?_; rintro e w' ⟨rfl, rfl⟩)
     )
    go_ret
    exact ⟨Base.ret_bool HN.out.symm, b0 _ _⟩
  have h1k := Lib.hid h1
  obtain ⟨f1, f2⟩ := h1
  by_cases h2 : 1 ≤ xs.length
  case neg =>
    have HN := Lib.hid (skB_n (f := f) (xs := xs) (fun q => h2 q.1))
    have h2' : (xs.length : Int) < 1 := by omega
    have hd : decide (1 ≤ (xs.length : Int)) = false := by simp; omega
    clear h2
    go_enter Try.func27, Try.ntmps27
    go_wp2_with (first
      | (go_at_call 58; refine (Base.l01In_yes _ _ _ _ (by omega) (by omega)).mono ?_; rintro e w' ⟨rfl, rfl⟩)
      | (go_at_call 58; refine (Base.l01In_no _ _ _ _ (by omega)).mono ?_; rintro e w' ⟨rfl, rfl⟩)
      | (go_at_call 60; refine (Base.inRange_yes _ _ _ _ (by omega) (by omega)).mono ?_; rintro e w' ⟨rfl, rfl⟩)
      | (go_at_call 60; refine (Base.inRange_no _ _ _ _ (by omega)).mono ?_; rintro e w' ⟨rfl, rfl⟩)
      | (go_at_call 63; refine (Base.spec_l01Money_yes _ _ (by omega) (by omega)).mono ?_; rintro e w' ⟨rfl, rfl⟩)
      | (go_at_call 63; refine (Base.spec_l01Money_no _ _ (by omega)).mono ?_; rintro e w' ⟨rfl, rfl⟩)
      | (go_at_call 65; refine (Base.impl_isMoney_yes _ _ (by omega) (by omega)).mono ?_; rintro e w' ⟨rfl, rfl⟩)
      | (go_at_call 65; refine (Base.impl_isMoney_no _ _ (by omega)).mono ?_; rintro e w' ⟨rfl, rfl⟩)
      | (go_at_call 67; refine (Base.spec_l04Rate_yes _ _ (by omega) (by omega)).mono ?_; rintro e w' ⟨rfl, rfl⟩)
      | (go_at_call 67; refine (Base.spec_l04Rate_no _ _ (by omega)).mono ?_; rintro e w' ⟨rfl, rfl⟩)
      | (go_at_call 68; refine (Base.impl_isRate_yes _ _ (by omega) (by omega)).mono ?_; rintro e w' ⟨rfl, rfl⟩)
      | (go_at_call 68; refine (Base.impl_isRate_no _ _ (by omega)).mono ?_; rintro e w' ⟨rfl, rfl⟩)
      | (go_at_call 59; refine (Lists.length_any _ _ _ _ (by omega)).mono ?_; rintro e w' ⟨rfl, rfl⟩)
     )
    go_ret
    exact ⟨Base.ret_bool HN.out.symm, b0 _ _⟩
  by_cases h3 : xs.length ≤ 120
  case neg =>
    have HN := Lib.hid (skB_n (f := f) (xs := xs) (fun q => h3 q.2))
    have h3' : 120 < (xs.length : Int) := by omega
    have hd : decide (1 ≤ (xs.length : Int)) = true := by simp; omega
    have hd2 : Hid (decide ((xs.length : Int) ≤ 120) = false) := by show _ = _; simp; omega
    clear h3
    go_enter Try.func27, Try.ntmps27
    go_wp2_with (first
      | (go_at_call 64; refine (Lists.allIn_any _ xs _ _ _ (HR.out _)).mono ?_; rintro e w1 ⟨rfl, hb1⟩)
      | (go_at_call 58; refine (Base.l01In_yes _ _ _ _ (by omega) (by omega)).mono ?_; rintro e w' ⟨rfl, rfl⟩)
      | (go_at_call 58; refine (Base.l01In_no _ _ _ _ (by omega)).mono ?_; rintro e w' ⟨rfl, rfl⟩)
      | (go_at_call 60; refine (Base.inRange_yes _ _ _ _ (by omega) (by omega)).mono ?_; rintro e w' ⟨rfl, rfl⟩)
      | (go_at_call 60; refine (Base.inRange_no _ _ _ _ (by omega)).mono ?_; rintro e w' ⟨rfl, rfl⟩)
      | (go_at_call 63; refine (Base.spec_l01Money_yes _ _ (by omega) (by omega)).mono ?_; rintro e w' ⟨rfl, rfl⟩)
      | (go_at_call 63; refine (Base.spec_l01Money_no _ _ (by omega)).mono ?_; rintro e w' ⟨rfl, rfl⟩)
      | (go_at_call 65; refine (Base.impl_isMoney_yes _ _ (by omega) (by omega)).mono ?_; rintro e w' ⟨rfl, rfl⟩)
      | (go_at_call 65; refine (Base.impl_isMoney_no _ _ (by omega)).mono ?_; rintro e w' ⟨rfl, rfl⟩)
      | (go_at_call 67; refine (Base.spec_l04Rate_yes _ _ (by omega) (by omega)).mono ?_; rintro e w' ⟨rfl, rfl⟩)
      | (go_at_call 67; refine (Base.spec_l04Rate_no _ _ (by omega)).mono ?_; rintro e w' ⟨rfl, rfl⟩)
      | (go_at_call 68; refine (Base.impl_isRate_yes _ _ (by omega) (by omega)).mono ?_; rintro e w' ⟨rfl, rfl⟩)
      | (go_at_call 68; refine (Base.impl_isRate_no _ _ (by omega)).mono ?_; rintro e w' ⟨rfl, rfl⟩)
      | (go_at_call 59; refine (Lists.length_any _ _ _ _ (by omega)).mono ?_; rintro e w' ⟨rfl, rfl⟩)
     )
    go_ret
    exact ⟨Base.ret_bool HN.out.symm, b0 _ _⟩
  have HY := Lib.hid (skB_yes (f := f) (xs := xs) h1k.out ⟨h2, h3⟩)
  have hd : decide (1 ≤ (xs.length : Int)) = true := by simp; omega
  have hd2 : Hid (decide ((xs.length : Int) ≤ 120) = true) := by show _ = _; simp; omega
  go_enter Try.func27, Try.ntmps27
  go_wp2_with (first
      | (go_at_call 64; refine (Lists.allIn_any _ xs _ _ _ (HR.out _)).mono ?_; rintro e w1 ⟨rfl, hb1⟩)
      | (go_at_call 58; refine (Base.l01In_yes _ _ _ _ (by omega) (by omega)).mono ?_; rintro e w' ⟨rfl, rfl⟩)
      | (go_at_call 58; refine (Base.l01In_no _ _ _ _ (by omega)).mono ?_; rintro e w' ⟨rfl, rfl⟩)
      | (go_at_call 60; refine (Base.inRange_yes _ _ _ _ (by omega) (by omega)).mono ?_; rintro e w' ⟨rfl, rfl⟩)
      | (go_at_call 60; refine (Base.inRange_no _ _ _ _ (by omega)).mono ?_; rintro e w' ⟨rfl, rfl⟩)
      | (go_at_call 63; refine (Base.spec_l01Money_yes _ _ (by omega) (by omega)).mono ?_; rintro e w' ⟨rfl, rfl⟩)
      | (go_at_call 63; refine (Base.spec_l01Money_no _ _ (by omega)).mono ?_; rintro e w' ⟨rfl, rfl⟩)
      | (go_at_call 65; refine (Base.impl_isMoney_yes _ _ (by omega) (by omega)).mono ?_; rintro e w' ⟨rfl, rfl⟩)
      | (go_at_call 65; refine (Base.impl_isMoney_no _ _ (by omega)).mono ?_; rintro e w' ⟨rfl, rfl⟩)
      | (go_at_call 67; refine (Base.spec_l04Rate_yes _ _ (by omega) (by omega)).mono ?_; rintro e w' ⟨rfl, rfl⟩)
      | (go_at_call 67; refine (Base.spec_l04Rate_no _ _ (by omega)).mono ?_; rintro e w' ⟨rfl, rfl⟩)
      | (go_at_call 68; refine (Base.impl_isRate_yes _ _ (by omega) (by omega)).mono ?_; rintro e w' ⟨rfl, rfl⟩)
      | (go_at_call 68; refine (Base.impl_isRate_no _ _ (by omega)).mono ?_; rintro e w' ⟨rfl, rfl⟩)
      | (go_at_call 59; refine (Lists.length_any _ _ _ _ (by omega)).mono ?_; rintro e w' ⟨rfl, rfl⟩)
     )
  go_ret
  exact ⟨Base.ret_bool HY.out.symm, bl (b0 _ _) hb1⟩

/-- The weeks at an age. -/
def wk (f : Int) (xs : List Int) (age : Int) : Int := if f ≤ age ∧ age ≤ f + xs.length - 1 then xs.getD (age - f).toNat 0 else 0

theorem specWeeks_any (f : Int) (v : Value) (xs : List Int) (age : Int) (w : World) (h : Rd w v xs) (f1 : 0 ≤ f) (f2 : f ≤ 100) (hn : xs.length ≤ 120) (a1 : 0 ≤ age) (a2 : age ≤ 150) :
    Calls Try.prog 69 #[.agg #[.int .i64 f, v], .int .i64 age] w fun e w' => e = .returned (.int .i64 (wk f xs age)) ∧ Below w.heap.size w w' := by
  by_cases hc : f ≤ age ∧ age ≤ f + xs.length - 1
  · have HW : Hid (wk f xs age = xs.getD (age - f).toNat 0) := by show _ = _; unfold wk; rw [if_pos hc]
    obtain ⟨c1, c2⟩ := hc
    rcases h with ⟨rfl, rfl⟩ | ⟨b, off, cap, rfl, hn', hl, hm, hbl, hx⟩
    · simp at c2; omega
    have hcell : ∀ o, (w.alloc o).cell? ⟨b, off + (age - f).toNat, none⟩ = some (.int .i64 (xs.getD (age - f).toNat 0)) := fun o => ((b0 w o).cell (p := ⟨b, off + (age - f).toNat, none⟩) hbl).trans (hx _ (by omega))
    clear hx
    generalize xs.getD (age - f).toNat 0 = y at *
    go_enter Try.func69, Try.ntmps69
    go_wp2_with (first
      | (go_at_call 58; refine (Base.l01In_yes _ _ _ _ (by omega) (by omega)).mono ?_; rintro e w' ⟨rfl, rfl⟩)
      | (go_at_call 58; refine (Base.l01In_no _ _ _ _ (by omega)).mono ?_; rintro e w' ⟨rfl, rfl⟩)
      | (go_at_call 60; refine (Base.inRange_yes _ _ _ _ (by omega) (by omega)).mono ?_; rintro e w' ⟨rfl, rfl⟩)
      | (go_at_call 60; refine (Base.inRange_no _ _ _ _ (by omega)).mono ?_; rintro e w' ⟨rfl, rfl⟩)
      | (go_at_call 63; refine (Base.spec_l01Money_yes _ _ (by omega) (by omega)).mono ?_; rintro e w' ⟨rfl, rfl⟩)
      | (go_at_call 63; refine (Base.spec_l01Money_no _ _ (by omega)).mono ?_; rintro e w' ⟨rfl, rfl⟩)
      | (go_at_call 65; refine (Base.impl_isMoney_yes _ _ (by omega) (by omega)).mono ?_; rintro e w' ⟨rfl, rfl⟩)
      | (go_at_call 65; refine (Base.impl_isMoney_no _ _ (by omega)).mono ?_; rintro e w' ⟨rfl, rfl⟩)
      | (go_at_call 67; refine (Base.spec_l04Rate_yes _ _ (by omega) (by omega)).mono ?_; rintro e w' ⟨rfl, rfl⟩)
      | (go_at_call 67; refine (Base.spec_l04Rate_no _ _ (by omega)).mono ?_; rintro e w' ⟨rfl, rfl⟩)
      | (go_at_call 68; refine (Base.impl_isRate_yes _ _ (by omega) (by omega)).mono ?_; rintro e w' ⟨rfl, rfl⟩)
      | (go_at_call 68; refine (Base.impl_isRate_no _ _ (by omega)).mono ?_; rintro e w' ⟨rfl, rfl⟩)
      | (go_at_call 59; refine (Lists.length_any _ _ _ _ (by omega)).mono ?_; rintro e w' ⟨rfl, rfl⟩)
     )
    go_ret
    exact ⟨Base.ret_int HW.out.symm, b0 _ _⟩
  · obtain ⟨a, c, rfl, _⟩ := rd_shape h
    have HW : Hid (wk f xs age = 0) := by show _ = _; unfold wk; rw [if_neg hc]
    have hc' : age < f ∨ f + (xs.length : Int) - 1 < age := by omega
    clear hc h
    go_enter Try.func69, Try.ntmps69
    go_wp2_with (first
      | (go_at_call 58; refine (Base.l01In_yes _ _ _ _ (by omega) (by omega)).mono ?_; rintro e w' ⟨rfl, rfl⟩)
      | (go_at_call 58; refine (Base.l01In_no _ _ _ _ (by omega)).mono ?_; rintro e w' ⟨rfl, rfl⟩)
      | (go_at_call 60; refine (Base.inRange_yes _ _ _ _ (by omega) (by omega)).mono ?_; rintro e w' ⟨rfl, rfl⟩)
      | (go_at_call 60; refine (Base.inRange_no _ _ _ _ (by omega)).mono ?_; rintro e w' ⟨rfl, rfl⟩)
      | (go_at_call 63; refine (Base.spec_l01Money_yes _ _ (by omega) (by omega)).mono ?_; rintro e w' ⟨rfl, rfl⟩)
      | (go_at_call 63; refine (Base.spec_l01Money_no _ _ (by omega)).mono ?_; rintro e w' ⟨rfl, rfl⟩)
      | (go_at_call 65; refine (Base.impl_isMoney_yes _ _ (by omega) (by omega)).mono ?_; rintro e w' ⟨rfl, rfl⟩)
      | (go_at_call 65; refine (Base.impl_isMoney_no _ _ (by omega)).mono ?_; rintro e w' ⟨rfl, rfl⟩)
      | (go_at_call 67; refine (Base.spec_l04Rate_yes _ _ (by omega) (by omega)).mono ?_; rintro e w' ⟨rfl, rfl⟩)
      | (go_at_call 67; refine (Base.spec_l04Rate_no _ _ (by omega)).mono ?_; rintro e w' ⟨rfl, rfl⟩)
      | (go_at_call 68; refine (Base.impl_isRate_yes _ _ (by omega) (by omega)).mono ?_; rintro e w' ⟨rfl, rfl⟩)
      | (go_at_call 68; refine (Base.impl_isRate_no _ _ (by omega)).mono ?_; rintro e w' ⟨rfl, rfl⟩)
      | (go_at_call 59; refine (Lists.length_any _ _ _ _ (by omega)).mono ?_; rintro e w' ⟨rfl, rfl⟩)
     )
    go_ret
    exact ⟨Base.ret_int HW.out.symm, b0 _ _⟩

theorem implWeeks_any (f : Int) (v : Value) (xs : List Int) (age : Int) (w : World) (h : Rd w v xs) (f1 : 0 ≤ f) (f2 : f ≤ 100) (hn : xs.length ≤ 120) (a1 : 0 ≤ age) (a2 : age ≤ 150) :
    Calls Try.prog 70 #[.agg #[.int .i64 f, v], .int .i64 age] w fun e w' => e = .returned (.int .i64 (wk f xs age)) ∧ Below w.heap.size w w' := by
  by_cases hc : f ≤ age ∧ age ≤ f + xs.length - 1
  · have HW : Hid (wk f xs age = xs.getD (age - f).toNat 0) := by show _ = _; unfold wk; rw [if_pos hc]
    obtain ⟨c1, c2⟩ := hc
    rcases h with ⟨rfl, rfl⟩ | ⟨b, off, cap, rfl, hn', hl, hm, hbl, hx⟩
    · simp at c2; omega
    have hcell : ∀ o, (w.alloc o).cell? ⟨b, off + (age - f).toNat, none⟩ = some (.int .i64 (xs.getD (age - f).toNat 0)) := fun o => ((b0 w o).cell (p := ⟨b, off + (age - f).toNat, none⟩) hbl).trans (hx _ (by omega))
    clear hx
    generalize xs.getD (age - f).toNat 0 = y at *
    go_enter Try.func70, Try.ntmps70
    go_wp2
    go_quiet ((first | (go_at_call 59; exact Base.quiet_eq (Lists.length_any _ _ _ _ (by omega))) | (go_at_call 60; exact Base.quiet_eq (Base.inRange_yes _ _ _ _ (by omega) (by omega))) | (go_at_call 60; exact Base.quiet_eq (Base.inRange_no _ _ _ _ (by omega)))))
    go_wp2
    go_ret
    exact ⟨Base.ret_int HW.out.symm, below_drewN (b0 _ _) _⟩
  · obtain ⟨a, c, rfl, _⟩ := rd_shape h
    have HW : Hid (wk f xs age = 0) := by show _ = _; unfold wk; rw [if_neg hc]
    have hc' : age < f ∨ f + (xs.length : Int) - 1 < age := by omega
    clear hc h
    go_enter Try.func70, Try.ntmps70
    go_wp2
    go_quiet ((first | (go_at_call 59; exact Base.quiet_eq (Lists.length_any _ _ _ _ (by omega))) | (go_at_call 60; exact Base.quiet_eq (Base.inRange_yes _ _ _ _ (by omega) (by omega))) | (go_at_call 60; exact Base.quiet_eq (Base.inRange_no _ _ _ _ (by omega)))))
    go_wp2
    go_ret
    exact ⟨Base.ret_int HW.out.symm, below_drewN (b0 _ _) _⟩

/-- What WeeksAt returns: a number and a code. -/
def waC (f : Int) (xs : List Int) (age : Int) : Int := if skB f xs then (if 0 ≤ age ∧ age ≤ 150 then 0 else 2) else 1
def waV (f : Int) (xs : List Int) (age : Int) : Int := if skB f xs then (if 0 ≤ age ∧ age ≤ 150 then wk f xs age else 0) else 0

set_option maxHeartbeats 400000 in
theorem specWeeksAt_any (f : Int) (v : Value) (xs : List Int) (age : Int) (w : World) (h : Rd w v xs) (a1 : -9223372036854775808 ≤ age) (a2 : age ≤ 9223372036854775807) :
    Calls Try.prog 39 #[.agg #[.int .i64 f, v], .int .i64 age] w fun e w' => e = .returned (.tuple #[.int .i64 (waV f xs age), .int .i64 (waC f xs age)]) ∧ Below w.heap.size w w' := by
  obtain ⟨a, c, rfl, hn⟩ := rd_shape h
  have HR := Lib.hid (rd_alloc h)
  have HX := Lib.hid (box2_new w (.int .i64 f) (.slice a xs.length c))
  clear h
  cases hk : skB f xs with
  | false =>
    have V : Hid (waV f xs age = 0) := by show _ = _; unfold waV; rw [hk]; rfl
    have C : Hid (waC f xs age = 1) := by show _ = _; unfold waC; rw [hk]; rfl
    have HK := Lib.hid hk
    clear hk
    go_enter Try.func39, Try.ntmps39
    go_wp2_with (first
      | (go_at_call 25; refine (specIsSickTable_any _ _ xs _ (HR.out _)).mono ?_; rintro e w1 ⟨rfl, hb1⟩; rw [HK.out]; obtain ⟨x1, x2, x3⟩ := (HX.out _).below hb1)
      | (go_at_call 58; refine (Base.l01In_yes _ _ _ _ (by omega) (by omega)).mono ?_; rintro e w' ⟨rfl, rfl⟩)
      | (go_at_call 58; refine (Base.l01In_no _ _ _ _ (by omega)).mono ?_; rintro e w' ⟨rfl, rfl⟩)
      | (go_at_call 60; refine (Base.inRange_yes _ _ _ _ (by omega) (by omega)).mono ?_; rintro e w' ⟨rfl, rfl⟩)
      | (go_at_call 60; refine (Base.inRange_no _ _ _ _ (by omega)).mono ?_; rintro e w' ⟨rfl, rfl⟩)
      | (go_at_call 63; refine (Base.spec_l01Money_yes _ _ (by omega) (by omega)).mono ?_; rintro e w' ⟨rfl, rfl⟩)
      | (go_at_call 63; refine (Base.spec_l01Money_no _ _ (by omega)).mono ?_; rintro e w' ⟨rfl, rfl⟩)
      | (go_at_call 65; refine (Base.impl_isMoney_yes _ _ (by omega) (by omega)).mono ?_; rintro e w' ⟨rfl, rfl⟩)
      | (go_at_call 65; refine (Base.impl_isMoney_no _ _ (by omega)).mono ?_; rintro e w' ⟨rfl, rfl⟩)
      | (go_at_call 67; refine (Base.spec_l04Rate_yes _ _ (by omega) (by omega)).mono ?_; rintro e w' ⟨rfl, rfl⟩)
      | (go_at_call 67; refine (Base.spec_l04Rate_no _ _ (by omega)).mono ?_; rintro e w' ⟨rfl, rfl⟩)
      | (go_at_call 68; refine (Base.impl_isRate_yes _ _ (by omega) (by omega)).mono ?_; rintro e w' ⟨rfl, rfl⟩)
      | (go_at_call 68; refine (Base.impl_isRate_no _ _ (by omega)).mono ?_; rintro e w' ⟨rfl, rfl⟩)
     )
    go_ret2
    exact ⟨Base.ret_ii V.out.symm C.out.symm, bl (b0 _ _) hb1⟩
  | true =>
    obtain ⟨⟨f1, f2⟩, ⟨n1, n2⟩, _⟩ := skB_of hk
    by_cases hc : 0 ≤ age ∧ age ≤ 150
    · have V : Hid (waV f xs age = wk f xs age) := by show _ = _; unfold waV; rw [hk, if_pos rfl, if_pos hc]
      have C : Hid (waC f xs age = 0) := by show _ = _; unfold waC; rw [hk, if_pos rfl, if_pos hc]
      have HK := Lib.hid hk
      obtain ⟨c1, c2⟩ := hc
      clear hk
      go_enter Try.func39, Try.ntmps39
      go_wp2_with (first
      | (go_at_call 25; refine (specIsSickTable_any _ _ xs _ (HR.out _)).mono ?_; rintro e w1 ⟨rfl, hb1⟩; rw [HK.out]; obtain ⟨x1, x2, x3⟩ := (HX.out _).below hb1) | (go_at_call 69; refine (specWeeks_any _ _ xs _ _ ((HR.out _).below hb1) (by omega) (by omega) (by omega) (by omega) (by omega)).mono ?_; rintro e w2 ⟨rfl, hb2⟩)
      | (go_at_call 58; refine (Base.l01In_yes _ _ _ _ (by omega) (by omega)).mono ?_; rintro e w' ⟨rfl, rfl⟩)
      | (go_at_call 58; refine (Base.l01In_no _ _ _ _ (by omega)).mono ?_; rintro e w' ⟨rfl, rfl⟩)
      | (go_at_call 60; refine (Base.inRange_yes _ _ _ _ (by omega) (by omega)).mono ?_; rintro e w' ⟨rfl, rfl⟩)
      | (go_at_call 60; refine (Base.inRange_no _ _ _ _ (by omega)).mono ?_; rintro e w' ⟨rfl, rfl⟩)
      | (go_at_call 63; refine (Base.spec_l01Money_yes _ _ (by omega) (by omega)).mono ?_; rintro e w' ⟨rfl, rfl⟩)
      | (go_at_call 63; refine (Base.spec_l01Money_no _ _ (by omega)).mono ?_; rintro e w' ⟨rfl, rfl⟩)
      | (go_at_call 65; refine (Base.impl_isMoney_yes _ _ (by omega) (by omega)).mono ?_; rintro e w' ⟨rfl, rfl⟩)
      | (go_at_call 65; refine (Base.impl_isMoney_no _ _ (by omega)).mono ?_; rintro e w' ⟨rfl, rfl⟩)
      | (go_at_call 67; refine (Base.spec_l04Rate_yes _ _ (by omega) (by omega)).mono ?_; rintro e w' ⟨rfl, rfl⟩)
      | (go_at_call 67; refine (Base.spec_l04Rate_no _ _ (by omega)).mono ?_; rintro e w' ⟨rfl, rfl⟩)
      | (go_at_call 68; refine (Base.impl_isRate_yes _ _ (by omega) (by omega)).mono ?_; rintro e w' ⟨rfl, rfl⟩)
      | (go_at_call 68; refine (Base.impl_isRate_no _ _ (by omega)).mono ?_; rintro e w' ⟨rfl, rfl⟩)
     )
      go_ret2
      exact ⟨Base.ret_ii V.out.symm C.out.symm, bl (bl (b0 _ _) hb1) hb2⟩
    · have V : Hid (waV f xs age = 0) := by show _ = _; unfold waV; rw [hk, if_pos rfl, if_neg hc]
      have C : Hid (waC f xs age = 2) := by show _ = _; unfold waC; rw [hk, if_pos rfl, if_neg hc]
      have HK := Lib.hid hk
      have hc' : age < 0 ∨ 150 < age := by omega
      clear hk hc
      go_enter Try.func39, Try.ntmps39
      go_wp2_with (first
      | (go_at_call 25; refine (specIsSickTable_any _ _ xs _ (HR.out _)).mono ?_; rintro e w1 ⟨rfl, hb1⟩; rw [HK.out]; obtain ⟨x1, x2, x3⟩ := (HX.out _).below hb1)
      | (go_at_call 58; refine (Base.l01In_yes _ _ _ _ (by omega) (by omega)).mono ?_; rintro e w' ⟨rfl, rfl⟩)
      | (go_at_call 58; refine (Base.l01In_no _ _ _ _ (by omega)).mono ?_; rintro e w' ⟨rfl, rfl⟩)
      | (go_at_call 60; refine (Base.inRange_yes _ _ _ _ (by omega) (by omega)).mono ?_; rintro e w' ⟨rfl, rfl⟩)
      | (go_at_call 60; refine (Base.inRange_no _ _ _ _ (by omega)).mono ?_; rintro e w' ⟨rfl, rfl⟩)
      | (go_at_call 63; refine (Base.spec_l01Money_yes _ _ (by omega) (by omega)).mono ?_; rintro e w' ⟨rfl, rfl⟩)
      | (go_at_call 63; refine (Base.spec_l01Money_no _ _ (by omega)).mono ?_; rintro e w' ⟨rfl, rfl⟩)
      | (go_at_call 65; refine (Base.impl_isMoney_yes _ _ (by omega) (by omega)).mono ?_; rintro e w' ⟨rfl, rfl⟩)
      | (go_at_call 65; refine (Base.impl_isMoney_no _ _ (by omega)).mono ?_; rintro e w' ⟨rfl, rfl⟩)
      | (go_at_call 67; refine (Base.spec_l04Rate_yes _ _ (by omega) (by omega)).mono ?_; rintro e w' ⟨rfl, rfl⟩)
      | (go_at_call 67; refine (Base.spec_l04Rate_no _ _ (by omega)).mono ?_; rintro e w' ⟨rfl, rfl⟩)
      | (go_at_call 68; refine (Base.impl_isRate_yes _ _ (by omega) (by omega)).mono ?_; rintro e w' ⟨rfl, rfl⟩)
      | (go_at_call 68; refine (Base.impl_isRate_no _ _ (by omega)).mono ?_; rintro e w' ⟨rfl, rfl⟩)
     )
      go_ret2
      exact ⟨Base.ret_ii V.out.symm C.out.symm, bl (b0 _ _) hb1⟩

set_option maxHeartbeats 400000 in
theorem implWeeksAt_any (f : Int) (v : Value) (xs : List Int) (age : Int) (w : World) (h : Rd w v xs) (a1 : -9223372036854775808 ≤ age) (a2 : age ≤ 9223372036854775807) :
    Calls Try.prog 40 #[.agg #[.int .i64 f, v], .int .i64 age] w fun e w' => e = .returned (.tuple #[.int .i64 (waV f xs age), .int .i64 (waC f xs age)]) ∧ Below w.heap.size w w' := by
  obtain ⟨a, c, rfl, hn⟩ := rd_shape h
  have HR := Lib.hid (rd_alloc h)
  have HX := Lib.hid (box2_new w (.int .i64 f) (.slice a xs.length c))
  clear h
  cases hk : skB f xs with
  | false =>
    have V : Hid (waV f xs age = 0) := by show _ = _; unfold waV; rw [hk]; rfl
    have C : Hid (waC f xs age = 1) := by show _ = _; unfold waC; rw [hk]; rfl
    have HK := Lib.hid hk
    clear hk
    go_enter Try.func40, Try.ntmps40
    go_wp2_with (first
      | (go_at_call 27; refine (implIsSickTable_any _ _ xs _ (HR.out _)).mono ?_; rintro e w1 ⟨rfl, hb1⟩; rw [HK.out]; obtain ⟨x1, x2, x3⟩ := (HX.out _).below hb1)
      | (go_at_call 58; refine (Base.l01In_yes _ _ _ _ (by omega) (by omega)).mono ?_; rintro e w' ⟨rfl, rfl⟩)
      | (go_at_call 58; refine (Base.l01In_no _ _ _ _ (by omega)).mono ?_; rintro e w' ⟨rfl, rfl⟩)
      | (go_at_call 60; refine (Base.inRange_yes _ _ _ _ (by omega) (by omega)).mono ?_; rintro e w' ⟨rfl, rfl⟩)
      | (go_at_call 60; refine (Base.inRange_no _ _ _ _ (by omega)).mono ?_; rintro e w' ⟨rfl, rfl⟩)
      | (go_at_call 63; refine (Base.spec_l01Money_yes _ _ (by omega) (by omega)).mono ?_; rintro e w' ⟨rfl, rfl⟩)
      | (go_at_call 63; refine (Base.spec_l01Money_no _ _ (by omega)).mono ?_; rintro e w' ⟨rfl, rfl⟩)
      | (go_at_call 65; refine (Base.impl_isMoney_yes _ _ (by omega) (by omega)).mono ?_; rintro e w' ⟨rfl, rfl⟩)
      | (go_at_call 65; refine (Base.impl_isMoney_no _ _ (by omega)).mono ?_; rintro e w' ⟨rfl, rfl⟩)
      | (go_at_call 67; refine (Base.spec_l04Rate_yes _ _ (by omega) (by omega)).mono ?_; rintro e w' ⟨rfl, rfl⟩)
      | (go_at_call 67; refine (Base.spec_l04Rate_no _ _ (by omega)).mono ?_; rintro e w' ⟨rfl, rfl⟩)
      | (go_at_call 68; refine (Base.impl_isRate_yes _ _ (by omega) (by omega)).mono ?_; rintro e w' ⟨rfl, rfl⟩)
      | (go_at_call 68; refine (Base.impl_isRate_no _ _ (by omega)).mono ?_; rintro e w' ⟨rfl, rfl⟩)
     )
    go_ret2
    exact ⟨Base.ret_ii V.out.symm C.out.symm, bl (b0 _ _) hb1⟩
  | true =>
    obtain ⟨⟨f1, f2⟩, ⟨n1, n2⟩, _⟩ := skB_of hk
    by_cases hc : 0 ≤ age ∧ age ≤ 150
    · have V : Hid (waV f xs age = wk f xs age) := by show _ = _; unfold waV; rw [hk, if_pos rfl, if_pos hc]
      have C : Hid (waC f xs age = 0) := by show _ = _; unfold waC; rw [hk, if_pos rfl, if_pos hc]
      have HK := Lib.hid hk
      obtain ⟨c1, c2⟩ := hc
      clear hk
      go_enter Try.func40, Try.ntmps40
      go_wp2_with (first
      | (go_at_call 27; refine (implIsSickTable_any _ _ xs _ (HR.out _)).mono ?_; rintro e w1 ⟨rfl, hb1⟩; rw [HK.out]; obtain ⟨x1, x2, x3⟩ := (HX.out _).below hb1) | (go_at_call 70; refine (implWeeks_any _ _ xs _ _ ((HR.out _).below hb1) (by omega) (by omega) (by omega) (by omega) (by omega)).mono ?_; rintro e w2 ⟨rfl, hb2⟩)
      | (go_at_call 58; refine (Base.l01In_yes _ _ _ _ (by omega) (by omega)).mono ?_; rintro e w' ⟨rfl, rfl⟩)
      | (go_at_call 58; refine (Base.l01In_no _ _ _ _ (by omega)).mono ?_; rintro e w' ⟨rfl, rfl⟩)
      | (go_at_call 60; refine (Base.inRange_yes _ _ _ _ (by omega) (by omega)).mono ?_; rintro e w' ⟨rfl, rfl⟩)
      | (go_at_call 60; refine (Base.inRange_no _ _ _ _ (by omega)).mono ?_; rintro e w' ⟨rfl, rfl⟩)
      | (go_at_call 63; refine (Base.spec_l01Money_yes _ _ (by omega) (by omega)).mono ?_; rintro e w' ⟨rfl, rfl⟩)
      | (go_at_call 63; refine (Base.spec_l01Money_no _ _ (by omega)).mono ?_; rintro e w' ⟨rfl, rfl⟩)
      | (go_at_call 65; refine (Base.impl_isMoney_yes _ _ (by omega) (by omega)).mono ?_; rintro e w' ⟨rfl, rfl⟩)
      | (go_at_call 65; refine (Base.impl_isMoney_no _ _ (by omega)).mono ?_; rintro e w' ⟨rfl, rfl⟩)
      | (go_at_call 67; refine (Base.spec_l04Rate_yes _ _ (by omega) (by omega)).mono ?_; rintro e w' ⟨rfl, rfl⟩)
      | (go_at_call 67; refine (Base.spec_l04Rate_no _ _ (by omega)).mono ?_; rintro e w' ⟨rfl, rfl⟩)
      | (go_at_call 68; refine (Base.impl_isRate_yes _ _ (by omega) (by omega)).mono ?_; rintro e w' ⟨rfl, rfl⟩)
      | (go_at_call 68; refine (Base.impl_isRate_no _ _ (by omega)).mono ?_; rintro e w' ⟨rfl, rfl⟩)
     )
      go_ret2
      exact ⟨Base.ret_ii V.out.symm C.out.symm, bl (bl (b0 _ _) hb1) hb2⟩
    · have V : Hid (waV f xs age = 0) := by show _ = _; unfold waV; rw [hk, if_pos rfl, if_neg hc]
      have C : Hid (waC f xs age = 2) := by show _ = _; unfold waC; rw [hk, if_pos rfl, if_neg hc]
      have HK := Lib.hid hk
      have hc' : age < 0 ∨ 150 < age := by omega
      clear hk hc
      go_enter Try.func40, Try.ntmps40
      go_wp2_with (first
      | (go_at_call 27; refine (implIsSickTable_any _ _ xs _ (HR.out _)).mono ?_; rintro e w1 ⟨rfl, hb1⟩; rw [HK.out]; obtain ⟨x1, x2, x3⟩ := (HX.out _).below hb1)
      | (go_at_call 58; refine (Base.l01In_yes _ _ _ _ (by omega) (by omega)).mono ?_; rintro e w' ⟨rfl, rfl⟩)
      | (go_at_call 58; refine (Base.l01In_no _ _ _ _ (by omega)).mono ?_; rintro e w' ⟨rfl, rfl⟩)
      | (go_at_call 60; refine (Base.inRange_yes _ _ _ _ (by omega) (by omega)).mono ?_; rintro e w' ⟨rfl, rfl⟩)
      | (go_at_call 60; refine (Base.inRange_no _ _ _ _ (by omega)).mono ?_; rintro e w' ⟨rfl, rfl⟩)
      | (go_at_call 63; refine (Base.spec_l01Money_yes _ _ (by omega) (by omega)).mono ?_; rintro e w' ⟨rfl, rfl⟩)
      | (go_at_call 63; refine (Base.spec_l01Money_no _ _ (by omega)).mono ?_; rintro e w' ⟨rfl, rfl⟩)
      | (go_at_call 65; refine (Base.impl_isMoney_yes _ _ (by omega) (by omega)).mono ?_; rintro e w' ⟨rfl, rfl⟩)
      | (go_at_call 65; refine (Base.impl_isMoney_no _ _ (by omega)).mono ?_; rintro e w' ⟨rfl, rfl⟩)
      | (go_at_call 67; refine (Base.spec_l04Rate_yes _ _ (by omega) (by omega)).mono ?_; rintro e w' ⟨rfl, rfl⟩)
      | (go_at_call 67; refine (Base.spec_l04Rate_no _ _ (by omega)).mono ?_; rintro e w' ⟨rfl, rfl⟩)
      | (go_at_call 68; refine (Base.impl_isRate_yes _ _ (by omega) (by omega)).mono ?_; rintro e w' ⟨rfl, rfl⟩)
      | (go_at_call 68; refine (Base.impl_isRate_no _ _ (by omega)).mono ?_; rintro e w' ⟨rfl, rfl⟩)
     )
      go_ret2
      exact ⟨Base.ret_ii V.out.symm C.out.symm, bl (b0 _ _) hb1⟩

/-- What WorstAge returns. -/
def woV (f : Int) (xs : List Int) : Int := if skB f xs then f + (Greatest.bst xs xs.length : Int) else 0
def woC (f : Int) (xs : List Int) : Int := if skB f xs then 0 else 1

set_option maxHeartbeats 1000000 in
theorem specWorstAge_any (f : Int) (v : Value) (xs : List Int) (w : World) (h : Rd w v xs) :
    Calls Try.prog 41 #[.agg #[.int .i64 f, v]] w fun e w' => e = .returned (.tuple #[.int .i64 (woV f xs), .int .i64 (woC f xs)]) ∧ Below w.heap.size w w' := by
  cases hk : skB f xs with
  | false =>
    obtain ⟨a, c, rfl, hn⟩ := rd_shape h
    have HR := Lib.hid (rd_alloc h)
    have HX := Lib.hid (box2_new w (.int .i64 f) (.slice a xs.length c))
    clear h
    have V : Hid (woV f xs = 0) := by show _ = _; unfold woV; rw [hk]; rfl
    have C : Hid (woC f xs = 1) := by show _ = _; unfold woC; rw [hk]; rfl
    have HK := Lib.hid hk
    clear hk
    go_enter Try.func41, Try.ntmps41
    go_wp2_with (first
      | (go_at_call 25; refine (specIsSickTable_any _ _ xs _ (HR.out _)).mono ?_; rintro e w1 ⟨rfl, hb1⟩; rw [HK.out]; obtain ⟨x1, x2, x3⟩ := (HX.out _).below hb1)
      | (go_at_call 58; refine (Base.l01In_yes _ _ _ _ (by omega) (by omega)).mono ?_; rintro e w' ⟨rfl, rfl⟩)
      | (go_at_call 58; refine (Base.l01In_no _ _ _ _ (by omega)).mono ?_; rintro e w' ⟨rfl, rfl⟩)
      | (go_at_call 60; refine (Base.inRange_yes _ _ _ _ (by omega) (by omega)).mono ?_; rintro e w' ⟨rfl, rfl⟩)
      | (go_at_call 60; refine (Base.inRange_no _ _ _ _ (by omega)).mono ?_; rintro e w' ⟨rfl, rfl⟩)
      | (go_at_call 63; refine (Base.spec_l01Money_yes _ _ (by omega) (by omega)).mono ?_; rintro e w' ⟨rfl, rfl⟩)
      | (go_at_call 63; refine (Base.spec_l01Money_no _ _ (by omega)).mono ?_; rintro e w' ⟨rfl, rfl⟩)
      | (go_at_call 65; refine (Base.impl_isMoney_yes _ _ (by omega) (by omega)).mono ?_; rintro e w' ⟨rfl, rfl⟩)
      | (go_at_call 65; refine (Base.impl_isMoney_no _ _ (by omega)).mono ?_; rintro e w' ⟨rfl, rfl⟩)
      | (go_at_call 67; refine (Base.spec_l04Rate_yes _ _ (by omega) (by omega)).mono ?_; rintro e w' ⟨rfl, rfl⟩)
      | (go_at_call 67; refine (Base.spec_l04Rate_no _ _ (by omega)).mono ?_; rintro e w' ⟨rfl, rfl⟩)
      | (go_at_call 68; refine (Base.impl_isRate_yes _ _ (by omega) (by omega)).mono ?_; rintro e w' ⟨rfl, rfl⟩)
      | (go_at_call 68; refine (Base.impl_isRate_no _ _ (by omega)).mono ?_; rintro e w' ⟨rfl, rfl⟩)
     )
    go_ret2
    exact ⟨Base.ret_ii V.out.symm C.out.symm, bl (b0 _ _) hb1⟩
  | true =>
    obtain ⟨⟨f1, f2⟩, ⟨n1, n2⟩, _⟩ := skB_of hk
    have HR := Lib.hid (rd_alloc h)
    have V : Hid (woV f xs = f + (Greatest.bst xs xs.length : Int)) := by show _ = _; unfold woV; rw [hk]; rfl
    have C : Hid (woC f xs = 0) := by show _ = _; unfold woC; rw [hk]; rfl
    have HK := Lib.hid hk
    have hbl2 := (Greatest.bst_lt xs xs.length).2 (by omega)
    rcases h with ⟨rfl, rfl⟩ | ⟨b, off, cap, rfl, hn', hl, hm, hbl, hx⟩
    · simp at n1
    have HX := Lib.hid (box2_new w (.int .i64 f) (.slice (some ⟨b, off, none⟩) xs.length cap))
    have HE := Lib.hid hx
    clear hk hx
    go_enter Try.func41, Try.ntmps41
    go_wp2_with fail
    refine (specIsSickTable_any _ _ xs _ (HR.out _)).mono ?_; rintro e w1 ⟨rfl, hb1⟩; rw [HK.out]
    obtain ⟨x1, x2, x3⟩ := (HX.out _).below hb1
    have HB := Lib.hid (bl (b0 w _) hb1)
    have hc1 : ∀ i, i < xs.length → w1.cell? ⟨b, off + i, none⟩ = some (.int .i64 (xs.getD i 0)) := fun i hi => (HB.out.cell (p := ⟨b, off + i, none⟩) hbl).trans (HE.out i hi)
    have HC := Lib.hid hc1
    clear hb1 hc1
    go_wp2
    go_loopw [4, 5] (fun bb i wr => ∃ (k q : Nat), k ≤ xs.length ∧ i = .int .i64 k ∧ bb = .int .i64 (Greatest.bst xs k : Int) ∧ wr = w1.drewN q) (fun _ i _ => xs.length - (intOf i).toNat)
    case atStart => exact ⟨0, 0, by omega, rfl, rfl, rfl⟩
    case round =>
      obtain ⟨k, q, hk, rfl, rfl, rfl⟩ := hrel
      by_cases hlt : k < xs.length
      · have hbk := (Greatest.bst_lt xs k).1
        have hcj : w1.cell? ⟨b, off + Greatest.bst xs k, none⟩ = some (.int .i64 (xs.getD (Greatest.bst xs k) 0)) := HC.out _ (by omega)
        have hck : w1.cell? ⟨b, off + k, none⟩ = some (.int .i64 (xs.getD k 0)) := HC.out k hlt
        have E1 : xs.getD (Greatest.bst xs k) 0 < xs.getD k 0 → Hid (Greatest.bst xs (k + 1) = k) := fun h => by show _ = _; rw [Greatest.bst_succ, if_pos h]
        have E2 : ¬ xs.getD (Greatest.bst xs k) 0 < xs.getD k 0 → Hid (Greatest.bst xs (k + 1) = Greatest.bst xs k) := fun h => by show _ = _; rw [Greatest.bst_succ, if_neg h]
        have E1' := Lib.hid E1
        have E2' := Lib.hid E2
        clear E1 E2
        generalize xs.getD (Greatest.bst xs k) 0 = y at *
        generalize xs.getD k 0 = x at *
        have HBK : Hid (Greatest.bst xs k = Greatest.bst xs k) := rfl
        generalize Greatest.bst xs k = m at *
        have hmi : (m : Int) < (xs.length : Int) := by omega
        have hki : (k : Int) < (xs.length : Int) := by omega
        by_cases c : y < x
        · have r := E1'.out c
          go_wp2
          go_quiet (fail)
          go_wp2
          go_roundw
          case rel => exact ⟨k + 1, _, by omega, by go_num, by rw [r.out], by first | rfl | exact World.drewN_drewN ..⟩
          case measure => simp [intOf]; omega
        · have r := E2'.out c
          have c' : x ≤ y := by omega
          clear c
          go_wp2
          go_quiet (fail)
          go_wp2
          go_roundw
          case rel => exact ⟨k + 1, _, by omega, by go_num, by rw [r.out], by first | rfl | exact World.drewN_drewN ..⟩
          case measure => simp [intOf]; omega
      · obtain rfl : k = xs.length := by omega
        go_wp2
        go_ret2
        exact ⟨Base.ret_ii V.out.symm C.out.symm, below_drewN HB.out _⟩

set_option maxHeartbeats 1000000 in
set_option maxRecDepth 100000 in
theorem implWorstAge_any (f : Int) (v : Value) (xs : List Int) (w : World) (h : Rd w v xs) :
    Calls Try.prog 42 #[.agg #[.int .i64 f, v]] w fun e w' => e = .returned (.tuple #[.int .i64 (woV f xs), .int .i64 (woC f xs)]) ∧ Below w.heap.size w w' := by
  cases hk : skB f xs with
  | false =>
    obtain ⟨a, c, rfl, hn⟩ := rd_shape h
    have HR := Lib.hid (rd_alloc h)
    have HX := Lib.hid (box2_new w (.int .i64 f) (.slice a xs.length c))
    clear h
    have V : Hid (woV f xs = 0) := by show _ = _; unfold woV; rw [hk]; rfl
    have C : Hid (woC f xs = 1) := by show _ = _; unfold woC; rw [hk]; rfl
    have HK := Lib.hid hk
    clear hk
    go_enter Try.func42, Try.ntmps42
    go_wp2_with (first
      | (go_at_call 27; refine (implIsSickTable_any _ _ xs _ (HR.out _)).mono ?_; rintro e w1 ⟨rfl, hb1⟩; rw [HK.out]; obtain ⟨x1, x2, x3⟩ := (HX.out _).below hb1)
      | (go_at_call 58; refine (Base.l01In_yes _ _ _ _ (by omega) (by omega)).mono ?_; rintro e w' ⟨rfl, rfl⟩)
      | (go_at_call 58; refine (Base.l01In_no _ _ _ _ (by omega)).mono ?_; rintro e w' ⟨rfl, rfl⟩)
      | (go_at_call 60; refine (Base.inRange_yes _ _ _ _ (by omega) (by omega)).mono ?_; rintro e w' ⟨rfl, rfl⟩)
      | (go_at_call 60; refine (Base.inRange_no _ _ _ _ (by omega)).mono ?_; rintro e w' ⟨rfl, rfl⟩)
      | (go_at_call 63; refine (Base.spec_l01Money_yes _ _ (by omega) (by omega)).mono ?_; rintro e w' ⟨rfl, rfl⟩)
      | (go_at_call 63; refine (Base.spec_l01Money_no _ _ (by omega)).mono ?_; rintro e w' ⟨rfl, rfl⟩)
      | (go_at_call 65; refine (Base.impl_isMoney_yes _ _ (by omega) (by omega)).mono ?_; rintro e w' ⟨rfl, rfl⟩)
      | (go_at_call 65; refine (Base.impl_isMoney_no _ _ (by omega)).mono ?_; rintro e w' ⟨rfl, rfl⟩)
      | (go_at_call 67; refine (Base.spec_l04Rate_yes _ _ (by omega) (by omega)).mono ?_; rintro e w' ⟨rfl, rfl⟩)
      | (go_at_call 67; refine (Base.spec_l04Rate_no _ _ (by omega)).mono ?_; rintro e w' ⟨rfl, rfl⟩)
      | (go_at_call 68; refine (Base.impl_isRate_yes _ _ (by omega) (by omega)).mono ?_; rintro e w' ⟨rfl, rfl⟩)
      | (go_at_call 68; refine (Base.impl_isRate_no _ _ (by omega)).mono ?_; rintro e w' ⟨rfl, rfl⟩)
     )
    go_ret2
    exact ⟨Base.ret_ii V.out.symm C.out.symm, bl (b0 _ _) hb1⟩
  | true =>
    obtain ⟨⟨f1, f2⟩, ⟨n1, n2⟩, _⟩ := skB_of hk
    have HR := Lib.hid (rd_alloc h)
    have V : Hid (woV f xs = f + (Greatest.bst xs xs.length : Int)) := by show _ = _; unfold woV; rw [hk]; rfl
    have C : Hid (woC f xs = 0) := by show _ = _; unfold woC; rw [hk]; rfl
    have HK := Lib.hid hk
    have hbl2 := (Greatest.bst_lt xs xs.length).2 (by omega)
    rcases h with ⟨rfl, rfl⟩ | ⟨b, off, cap, rfl, hn', hl, hm, hbl, hx⟩
    · simp at n1
    have HX := Lib.hid (box2_new w (.int .i64 f) (.slice (some ⟨b, off, none⟩) xs.length cap))
    have HE := Lib.hid hx
    clear hk hx
    go_enter Try.func42, Try.ntmps42
    go_wp2_with fail
    refine (implIsSickTable_any _ _ xs _ (HR.out _)).mono ?_; rintro e w1 ⟨rfl, hb1⟩; rw [HK.out]
    obtain ⟨x1, x2, x3⟩ := (HX.out _).below hb1
    have HB := Lib.hid (bl (b0 w _) hb1)
    have hc1 : ∀ i, i < xs.length → w1.cell? ⟨b, off + i, none⟩ = some (.int .i64 (xs.getD i 0)) := fun i hi => (HB.out.cell (p := ⟨b, off + i, none⟩) hbl).trans (HE.out i hi)
    have HC := Lib.hid hc1
    clear hb1 hc1
    have hm1 := Greatest.bst_first xs xs.length
    have hcq : ∀ q i, i < xs.length → (w1.drewN q).cell? ⟨b, off + i, none⟩ = some (.int .i64 (xs.getD i 0)) := fun q i hi => HC.out i hi
    have HQ := Lib.hid hcq
    clear hcq
    have CM := fun q => Greatest.max_any b off cap xs (w1.drewN q) (by omega) (by omega) (HQ.out q)
    have CI := fun q => Greatest.index_any b off cap xs _ (Greatest.bst xs xs.length) (w1.drewN q) (by omega) hbl2 rfl (fun j hj => by have := hm1 j hj; omega) (HQ.out q)
    generalize xs.getD (Greatest.bst xs xs.length) 0 = M at CM CI
    have CMh := Lib.hid CM
    have CIh := Lib.hid CI
    clear hm1 CM CI
    go_wp2
    go_quiet ((first | (go_at_call 72; exact Calls.quiet_of (CMh.out _)) | (go_at_call 71; exact Calls.quiet_of (CIh.out _))))
    go_wp2
    go_ret2
    exact ⟨Base.ret_ii V.out.symm C.out.symm, below_drewN HB.out _⟩

end Go.Proofs.Ytochnbljjlloiaa.SickTables
