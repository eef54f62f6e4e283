/-
  Contracts of IsSickTable, WeeksAt and WorstAge of both packages.
  Conditions: the slice of the table reads as a list (Mem.Rd); first age and age fit int64.
-/
import Derived.Test.YtmngljpncglchaaDoorGreatest
namespace Go.Proofs.YtmngljpncglchaaDoor.SickTables
open Go.RowKit Mem
set_option linter.unusedVariables false

def skB (f : Int) (xs : List Int) : Bool := decide (0 ≤ f ∧ f ≤ 100) && (decide (1 ≤ xs.length ∧ xs.length ≤ 120) && within 0 52000 xs)
theorem skB_of {f : Int} {xs : List Int} (h : skB f xs = true) : (0 ≤ f ∧ f ≤ 100) ∧ (1 ≤ xs.length ∧ xs.length ≤ 120) ∧ within 0 52000 xs = true := by
  simpa [skB] using h
theorem skB_f {f : Int} {xs : List Int} (h : ¬ (0 ≤ f ∧ f ≤ 100)) : skB f xs = false := by unfold skB; rw [decide_eq_false h]; rfl
theorem skB_n {f : Int} {xs : List Int} (h : ¬ (1 ≤ xs.length ∧ xs.length ≤ 120)) : skB f xs = false := by unfold skB; rw [decide_eq_false h, Bool.false_and, Bool.and_false]
theorem skB_w {f : Int} {xs : List Int} (h : within 0 52000 xs = false) : skB f xs = false := by unfold skB; rw [h, Bool.and_false, Bool.and_false]
theorem skB_yes {f : Int} {xs : List Int} (h : 0 ≤ f ∧ f ≤ 100) (g : 1 ≤ xs.length ∧ xs.length ≤ 120) : skB f xs = within 0 52000 xs := by unfold skB; rw [decide_eq_true h, decide_eq_true g]; rfl
theorem rd_alloc {w : World} {v : Value} {xs : List Int} (h : Rd w v xs) : ∀ o, Rd (w.alloc o) v xs := fun o => h.below (b0 w o)

set_option maxHeartbeats 400000 in
theorem specIsSickTable_any (f : Int) (v : Value) (xs : List Int) (w : World) (h : Rd w v xs) :
    Calls Tryd.prog 89 #[.agg #[.int .i64 f, v]] w fun e w' => e = .returned (.bool (skB f xs)) ∧ Below w.heap.size w w' := by
  obtain ⟨a, c, rfl, hn⟩ := rd_shape h
  have HR := Lib.hid (rd_alloc h)
  clear h
  by_cases h1 : 0 ≤ f ∧ f ≤ 100
  case neg =>
    have HN := Lib.hid (skB_f (xs := xs) h1)
    have h1' : f < 0 ∨ 100 < f := by omega
    clear h1
    go_enter Tryd.func89, Tryd.ntmps89
    go_wp2_with (first
      | (go_at_call 98; refine (Base.l01In_yes _ _ _ _ (by omega) (by omega)).mono ?_; rintro e w' ⟨rfl, rfl⟩)
      | (go_at_call 98; refine (Base.l01In_no _ _ _ _ (by omega)).mono ?_; rintro e w' ⟨rfl, rfl⟩)
      | (go_at_call 97; refine (Base.inRange_yes _ _ _ _ (by omega) (by omega)).mono ?_; rintro e w' ⟨rfl, rfl⟩)
      | (go_at_call 97; refine (Base.inRange_no _ _ _ _ (by omega)).mono ?_; rintro e w' ⟨rfl, rfl⟩)
      | (go_at_call 73; refine (Base.spec_l01Money_yes _ _ (by omega) (by omega)).mono ?_; rintro e w' ⟨rfl, rfl⟩)
      | (go_at_call 73; refine (Base.spec_l01Money_no _ _ (by omega)).mono ?_; rintro e w' ⟨rfl, rfl⟩)
      | (go_at_call 68; refine (Base.impl_isMoney_yes _ _ (by omega) (by omega)).mono ?_; rintro e w' ⟨rfl, rfl⟩)
      | (go_at_call 68; refine (Base.impl_isMoney_no _ _ (by omega)).mono ?_; rintro e w' ⟨rfl, rfl⟩)
      | (go_at_call 79; refine (Base.spec_l02Month_yes _ _ (by omega) (by omega)).mono ?_; rintro e w' ⟨rfl, rfl⟩)
      | (go_at_call 79; refine (Base.spec_l02Month_no _ _ (by omega)).mono ?_; rintro e w' ⟨rfl, rfl⟩)
      | (go_at_call 81; refine (Base.impl_isMonth_yes _ _ (by omega) (by omega)).mono ?_; rintro e w' ⟨rfl, rfl⟩)
      | (go_at_call 81; refine (Base.impl_isMonth_no _ _ (by omega)).mono ?_; rintro e w' ⟨rfl, rfl⟩)
      | (go_at_call 120; refine (Lists.length_any _ _ _ _ (by omega)).mono ?_; rintro e w' ⟨rfl, rfl⟩)
     )
    go_ret
    exact ⟨Base.ret_bool HN.out.symm, b0 _ _⟩
  have h1k := Lib.hid h1
  obtain ⟨f1, f2⟩ := h1
  by_cases h2 : 1 ≤ xs.length
  case neg =>
    have HN := Lib.hid (skB_n (f := f) (xs := xs) (fun q => h2 q.1))
    have h2' : (xs.length : Int) < 1 := by omega
    have hd : decide (1 ≤ (xs.length : Int)) = false := by simp; omega
    clear h2
    go_enter Tryd.func89, Tryd.ntmps89
    go_wp2_with (first
      | (go_at_call 98; refine (Base.l01In_yes _ _ _ _ (by omega) (by omega)).mono ?_; rintro e w' ⟨rfl, rfl⟩)
      | (go_at_call 98; refine (Base.l01In_no _ _ _ _ (by omega)).mono ?_; rintro e w' ⟨rfl, rfl⟩)
      | (go_at_call 97; refine (Base.inRange_yes _ _ _ _ (by omega) (by omega)).mono ?_; rintro e w' ⟨rfl, rfl⟩)
      | (go_at_call 97; refine (Base.inRange_no _ _ _ _ (by omega)).mono ?_; rintro e w' ⟨rfl, rfl⟩)
      | (go_at_call 73; refine (Base.spec_l01Money_yes _ _ (by omega) (by omega)).mono ?_; rintro e w' ⟨rfl, rfl⟩)
      | (go_at_call 73; refine (Base.spec_l01Money_no _ _ (by omega)).mono ?_; rintro e w' ⟨rfl, rfl⟩)
      | (go_at_call 68; refine (Base.impl_isMoney_yes _ _ (by omega) (by omega)).mono ?_; rintro e w' ⟨rfl, rfl⟩)
      | (go_at_call 68; refine (Base.impl_isMoney_no _ _ (by omega)).mono ?_; rintro e w' ⟨rfl, rfl⟩)
      | (go_at_call 79; refine (Base.spec_l02Month_yes _ _ (by omega) (by omega)).mono ?_; rintro e w' ⟨rfl, rfl⟩)
      | (go_at_call 79; refine (Base.spec_l02Month_no _ _ (by omega)).mono ?_; rintro e w' ⟨rfl, rfl⟩)
      | (go_at_call 81; refine (Base.impl_isMonth_yes _ _ (by omega) (by omega)).mono ?_; rintro e w' ⟨rfl, rfl⟩)
      | (go_at_call 81; refine (Base.impl_isMonth_no _ _ (by omega)).mono ?_; rintro e w' ⟨rfl, rfl⟩)
      | (go_at_call 120; refine (Lists.length_any _ _ _ _ (by omega)).mono ?_; rintro e w' ⟨rfl, rfl⟩)
     )
    go_ret
    exact ⟨Base.ret_bool HN.out.symm, b0 _ _⟩
  by_cases h3 : xs.length ≤ 120
  case neg =>
    have HN := Lib.hid (skB_n (f := f) (xs := xs) (fun q => h3 q.2))
    have h3' : 120 < (xs.length : Int) := by omega
    have hd : decide (1 ≤ (xs.length : Int)) = true := by simp; omega
    have hd2 : Hid (decide ((xs.length : Int) ≤ 120) = false) := by show _ = _; simp; omega
    clear h3
    go_enter Tryd.func89, Tryd.ntmps89
    go_wp2_with (first
      | (go_at_call 76; refine (Lists.l01Within_any _ xs _ _ _ _ (HR.out _)).mono ?_; rintro e w1 ⟨rfl, hb1⟩; rw [hd2.out, Bool.and_false])
      | (go_at_call 98; refine (Base.l01In_yes _ _ _ _ (by omega) (by omega)).mono ?_; rintro e w' ⟨rfl, rfl⟩)
      | (go_at_call 98; refine (Base.l01In_no _ _ _ _ (by omega)).mono ?_; rintro e w' ⟨rfl, rfl⟩)
      | (go_at_call 97; refine (Base.inRange_yes _ _ _ _ (by omega) (by omega)).mono ?_; rintro e w' ⟨rfl, rfl⟩)
      | (go_at_call 97; refine (Base.inRange_no _ _ _ _ (by omega)).mono ?_; rintro e w' ⟨rfl, rfl⟩)
      | (go_at_call 73; refine (Base.spec_l01Money_yes _ _ (by omega) (by omega)).mono ?_; rintro e w' ⟨rfl, rfl⟩)
      | (go_at_call 73; refine (Base.spec_l01Money_no _ _ (by omega)).mono ?_; rintro e w' ⟨rfl, rfl⟩)
      | (go_at_call 68; refine (Base.impl_isMoney_yes _ _ (by omega) (by omega)).mono ?_; rintro e w' ⟨rfl, rfl⟩)
      | (go_at_call 68; refine (Base.impl_isMoney_no _ _ (by omega)).mono ?_; rintro e w' ⟨rfl, rfl⟩)
      | (go_at_call 79; refine (Base.spec_l02Month_yes _ _ (by omega) (by omega)).mono ?_; rintro e w' ⟨rfl, rfl⟩)
      | (go_at_call 79; refine (Base.spec_l02Month_no _ _ (by omega)).mono ?_; rintro e w' ⟨rfl, rfl⟩)
      | (go_at_call 81; refine (Base.impl_isMonth_yes _ _ (by omega) (by omega)).mono ?_; rintro e w' ⟨rfl, rfl⟩)
      | (go_at_call 81; refine (Base.impl_isMonth_no _ _ (by omega)).mono ?_; rintro e w' ⟨rfl, rfl⟩)
      | (go_at_call 120; refine (Lists.length_any _ _ _ _ (by omega)).mono ?_; rintro e w' ⟨rfl, rfl⟩)
     )
    go_ret
    exact ⟨Base.ret_bool HN.out.symm, bl (b0 _ _) hb1⟩
  have HY := Lib.hid (skB_yes (f := f) (xs := xs) h1k.out ⟨h2, h3⟩)
  have hd : decide (1 ≤ (xs.length : Int)) = true := by simp; omega
  have hd2 : Hid (decide ((xs.length : Int) ≤ 120) = true) := by show _ = _; simp; omega
  go_enter Tryd.func89, Tryd.ntmps89
  go_wp2_with (first
      | (go_at_call 76; refine (Lists.l01Within_any _ xs _ _ _ _ (HR.out _)).mono ?_; rintro e w1 ⟨rfl, hb1⟩; rw [hd2.out, Bool.and_true])
      | (go_at_call 98; refine (Base.l01In_yes _ _ _ _ (by omega) (by omega)).mono ?_; rintro e w' ⟨rfl, rfl⟩)
      | (go_at_call 98; refine (Base.l01In_no _ _ _ _ (by omega)).mono ?_; rintro e w' ⟨rfl, rfl⟩)
      | (go_at_call 97; refine (Base.inRange_yes _ _ _ _ (by omega) (by omega)).mono ?_; rintro e w' ⟨rfl, rfl⟩)
      | (go_at_call 97; refine (Base.inRange_no _ _ _ _ (by omega)).mono ?_; rintro e w' ⟨rfl, rfl⟩)
      | (go_at_call 73; refine (Base.spec_l01Money_yes _ _ (by omega) (by omega)).mono ?_; rintro e w' ⟨rfl, rfl⟩)
      | (go_at_call 73; refine (Base.spec_l01Money_no _ _ (by omega)).mono ?_; rintro e w' ⟨rfl, rfl⟩)
      | (go_at_call 68; refine (Base.impl_isMoney_yes _ _ (by omega) (by omega)).mono ?_; rintro e w' ⟨rfl, rfl⟩)
      | (go_at_call 68; refine (Base.impl_isMoney_no _ _ (by omega)).mono ?_; rintro e w' ⟨rfl, rfl⟩)
      | (go_at_call 79; refine (Base.spec_l02Month_yes _ _ (by omega) (by omega)).mono ?_; rintro e w' ⟨rfl, rfl⟩)
      | (go_at_call 79; refine (Base.spec_l02Month_no _ _ (by omega)).mono ?_; rintro e w' ⟨rfl, rfl⟩)
      | (go_at_call 81; refine (Base.impl_isMonth_yes _ _ (by omega) (by omega)).mono ?_; rintro e w' ⟨rfl, rfl⟩)
      | (go_at_call 81; refine (Base.impl_isMonth_no _ _ (by omega)).mono ?_; rintro e w' ⟨rfl, rfl⟩)
      | (go_at_call 120; refine (Lists.length_any _ _ _ _ (by omega)).mono ?_; rintro e w' ⟨rfl, rfl⟩)
     )
  go_ret
  exact ⟨Base.ret_bool HY.out.symm, bl (b0 _ _) hb1⟩

set_option maxHeartbeats 400000 in
theorem implIsSickTable_any (f : Int) (v : Value) (xs : List Int) (w : World) (h : Rd w v xs) :
    Calls Tryd.prog 90 #[.agg #[.int .i64 f, v]] w fun e w' => e = .returned (.bool (skB f xs)) ∧ Below w.heap.size w w' := by
  obtain ⟨a, c, rfl, hn⟩ := rd_shape h
  have HR := Lib.hid (rd_alloc h)
  clear h
  by_cases h1 : 0 ≤ f ∧ f ≤ 100
  case neg =>
    have HN := Lib.hid (skB_f (xs := xs) h1)
    have h1' : f < 0 ∨ 100 < f := by omega
    clear h1
    go_enter Tryd.func90, Tryd.ntmps90
    go_wp2_with (first
      | (go_at_call 98; refine (Base.l01In_yes _ _ _ _ (by omega) (by omega)).mono ?_; rintro e w' ⟨rfl, rfl⟩)
      | (go_at_call 98; refine (Base.l01In_no _ _ _ _ (by omega)).mono ?_; rintro e w' ⟨rfl, rfl⟩)
      | (go_at_call 97; refine (Base.inRange_yes _ _ _ _ (by omega) (by omega)).mono ?_; rintro e w' ⟨rfl, rfl⟩)
      | (go_at_call 97; refine (Base.inRange_no _ _ _ _ (by omega)).mono ?_; rintro e w' ⟨rfl, rfl⟩)
      | (go_at_call 73; refine (Base.spec_l01Money_yes _ _ (by omega) (by omega)).mono ?_; rintro e w' ⟨rfl, rfl⟩)
      | (go_at_call 73; refine (Base.spec_l01Money_no _ _ (by omega)).mono ?_; rintro e w' ⟨rfl, rfl⟩)
      | (go_at_call 68; refine (Base.impl_isMoney_yes _ _ (by omega) (by omega)).mono ?_; rintro e w' ⟨rfl, rfl⟩)
      | (go_at_call 68; refine (Base.impl_isMoney_no _ _ (by omega)).mono ?_; rintro e w' ⟨rfl, rfl⟩)
      | (go_at_call 79; refine (Base.spec_l02Month_yes _ _ (by omega) (by omega)).mono ?_; rintro e w' ⟨rfl, rfl⟩)
      | (go_at_call 79; refine (Base.spec_l02Month_no _ _ (by omega)).mono ?_; rintro e w' ⟨rfl, rfl⟩)
      | (go_at_call 81; refine (Base.impl_isMonth_yes _ _ (by omega) (by omega)).mono ?_; rintro e w' ⟨rfl, rfl⟩)
      | (go_at_call 81; refine (Base.impl_isMonth_no _ _ (by omega)).mono ?_; rintro e w' ⟨rfl, rfl⟩)
      | (go_at_call 120; refine (Lists.length_any _ _ _ _ (by omega)).mono ?_; rintro e w' ⟨rfl, rfl⟩)
     )
    go_ret
    exact ⟨Base.ret_bool HN.out.symm, b0 _ _⟩
  have h1k := Lib.hid h1
  obtain ⟨f1, f2⟩ := h1
  by_cases h2 : 1 ≤ xs.length
  case neg =>
    have HN := Lib.hid (skB_n (f := f) (xs := xs) (fun q => h2 q.1))
    have h2' : (xs.length : Int) < 1 := by omega
    have hd : decide (1 ≤ (xs.length : Int)) = false := by simp; omega
    clear h2
    go_enter Tryd.func90, Tryd.ntmps90
    go_wp2_with (first
      | (go_at_call 98; refine (Base.l01In_yes _ _ _ _ (by omega) (by omega)).mono ?_; rintro e w' ⟨rfl, rfl⟩)
      | (go_at_call 98; refine (Base.l01In_no _ _ _ _ (by omega)).mono ?_; rintro e w' ⟨rfl, rfl⟩)
      | (go_at_call 97; refine (Base.inRange_yes _ _ _ _ (by omega) (by omega)).mono ?_; rintro e w' ⟨rfl, rfl⟩)
      | (go_at_call 97; refine (Base.inRange_no _ _ _ _ (by omega)).mono ?_; rintro e w' ⟨rfl, rfl⟩)
      | (go_at_call 73; refine (Base.spec_l01Money_yes _ _ (by omega) (by omega)).mono ?_; rintro e w' ⟨rfl, rfl⟩)
      | (go_at_call 73; refine (Base.spec_l01Money_no _ _ (by omega)).mono ?_; rintro e w' ⟨rfl, rfl⟩)
      | (go_at_call 68; refine (Base.impl_isMoney_yes _ _ (by omega) (by omega)).mono ?_; rintro e w' ⟨rfl, rfl⟩)
      | (go_at_call 68; refine (Base.impl_isMoney_no _ _ (by omega)).mono ?_; rintro e w' ⟨rfl, rfl⟩)
      | (go_at_call 79; refine (Base.spec_l02Month_yes _ _ (by omega) (by omega)).mono ?_; rintro e w' ⟨rfl, rfl⟩)
      | (go_at_call 79; refine (Base.spec_l02Month_no _ _ (by omega)).mono ?_; rintro e w' ⟨rfl, rfl⟩)
      | (go_at_call 81; refine (Base.impl_isMonth_yes _ _ (by omega) (by omega)).mono ?_; rintro e w' ⟨rfl, rfl⟩)
      | (go_at_call 81; refine (Base.impl_isMonth_no _ _ (by omega)).mono ?_; rintro e w' ⟨rfl, rfl⟩)
      | (go_at_call 120; refine (Lists.length_any _ _ _ _ (by omega)).mono ?_; rintro e w' ⟨rfl, rfl⟩)
     )
    go_ret
    exact ⟨Base.ret_bool HN.out.symm, b0 _ _⟩
  by_cases h3 : xs.length ≤ 120
  case neg =>
    have HN := Lib.hid (skB_n (f := f) (xs := xs) (fun q => h3 q.2))
    have h3' : 120 < (xs.length : Int) := by omega
    have hd : decide (1 ≤ (xs.length : Int)) = true := by simp; omega
    have hd2 : Hid (decide ((xs.length : Int) ≤ 120) = false) := by show _ = _; simp; omega
    clear h3
    go_enter Tryd.func90, Tryd.ntmps90
    go_wp2_with (first
      | (go_at_call 74; refine (Lists.allIn_any _ xs _ _ _ (HR.out _)).mono ?_; rintro e w1 ⟨rfl, hb1⟩)
      | (go_at_call 98; refine (Base.l01In_yes _ _ _ _ (by omega) (by omega)).mono ?_; rintro e w' ⟨rfl, rfl⟩)
      | (go_at_call 98; refine (Base.l01In_no _ _ _ _ (by omega)).mono ?_; rintro e w' ⟨rfl, rfl⟩)
      | (go_at_call 97; refine (Base.inRange_yes _ _ _ _ (by omega) (by omega)).mono ?_; rintro e w' ⟨rfl, rfl⟩)
      | (go_at_call 97; refine (Base.inRange_no _ _ _ _ (by omega)).mono ?_; rintro e w' ⟨rfl, rfl⟩)
      | (go_at_call 73; refine (Base.spec_l01Money_yes _ _ (by omega) (by omega)).mono ?_; rintro e w' ⟨rfl, rfl⟩)
      | (go_at_call 73; refine (Base.spec_l01Money_no _ _ (by omega)).mono ?_; rintro e w' ⟨rfl, rfl⟩)
      | (go_at_call 68; refine (Base.impl_isMoney_yes _ _ (by omega) (by omega)).mono ?_; rintro e w' ⟨rfl, rfl⟩)
      | (go_at_call 68; refine (Base.impl_isMoney_no _ _ (by omega)).mono ?_; rintro e w' ⟨rfl, rfl⟩)
      | (go_at_call 79; refine (Base.spec_l02Month_yes _ _ (by omega) (by omega)).mono ?_; rintro e w' ⟨rfl, rfl⟩)
      | (go_at_call 79; refine (Base.spec_l02Month_no _ _ (by omega)).mono ?_; rintro e w' ⟨rfl, rfl⟩)
      | (go_at_call 81; refine (Base.impl_isMonth_yes _ _ (by omega) (by omega)).mono ?_; rintro e w' ⟨rfl, rfl⟩)
      | (go_at_call 81; refine (Base.impl_isMonth_no _ _ (by omega)).mono ?_; rintro e w' ⟨rfl, rfl⟩)
      | (go_at_call 120; refine (Lists.length_any _ _ _ _ (by omega)).mono ?_; rintro e w' ⟨rfl, rfl⟩)
     )
    go_ret
    exact ⟨Base.ret_bool HN.out.symm, b0 _ _⟩
  have HY := Lib.hid (skB_yes (f := f) (xs := xs) h1k.out ⟨h2, h3⟩)
  have hd : decide (1 ≤ (xs.length : Int)) = true := by simp; omega
  have hd2 : Hid (decide ((xs.length : Int) ≤ 120) = true) := by show _ = _; simp; omega
  go_enter Tryd.func90, Tryd.ntmps90
  go_wp2_with (first
      | (go_at_call 74; refine (Lists.allIn_any _ xs _ _ _ (HR.out _)).mono ?_; rintro e w1 ⟨rfl, hb1⟩)
      | (go_at_call 98; refine (Base.l01In_yes _ _ _ _ (by omega) (by omega)).mono ?_; rintro e w' ⟨rfl, rfl⟩)
      | (go_at_call 98; refine (Base.l01In_no _ _ _ _ (by omega)).mono ?_; rintro e w' ⟨rfl, rfl⟩)
      | (go_at_call 97; refine (Base.inRange_yes _ _ _ _ (by omega) (by omega)).mono ?_; rintro e w' ⟨rfl, rfl⟩)
      | (go_at_call 97; refine (Base.inRange_no _ _ _ _ (by omega)).mono ?_; rintro e w' ⟨rfl, rfl⟩)
      | (go_at_call 73; refine (Base.spec_l01Money_yes _ _ (by omega) (by omega)).mono ?_; rintro e w' ⟨rfl, rfl⟩)
      | (go_at_call 73; refine (Base.spec_l01Money_no _ _ (by omega)).mono ?_; rintro e w' ⟨rfl, rfl⟩)
      | (go_at_call 68; refine (Base.impl_isMoney_yes _ _ (by omega) (by omega)).mono ?_; rintro e w' ⟨rfl, rfl⟩)
      | (go_at_call 68; refine (Base.impl_isMoney_no _ _ (by omega)).mono ?_; rintro e w' ⟨rfl, rfl⟩)
      | (go_at_call 79; refine (Base.spec_l02Month_yes _ _ (by omega) (by omega)).mono ?_; rintro e w' ⟨rfl, rfl⟩)
      | (go_at_call 79; refine (Base.spec_l02Month_no _ _ (by omega)).mono ?_; rintro e w' ⟨rfl, rfl⟩)
      | (go_at_call 81; refine (Base.impl_isMonth_yes _ _ (by omega) (by omega)).mono ?_; rintro e w' ⟨rfl, rfl⟩)
      | (go_at_call 81; refine (Base.impl_isMonth_no _ _ (by omega)).mono ?_; rintro e w' ⟨rfl, rfl⟩)
      | (go_at_call 120; refine (Lists.length_any _ _ _ _ (by omega)).mono ?_; rintro e w' ⟨rfl, rfl⟩)
     )
  go_ret
  exact ⟨Base.ret_bool HY.out.symm, bl (b0 _ _) hb1⟩

/-- The weeks at an age. -/
def wk (f : Int) (xs : List Int) (age : Int) : Int := if f ≤ age ∧ age ≤ f + xs.length - 1 then xs.getD (age - f).toNat 0 else 0

/-- What WeeksAt returns: a number and a code. -/
def waC (f : Int) (xs : List Int) (age : Int) : Int := if skB f xs then (if 0 ≤ age ∧ age ≤ 150 then 0 else 2) else 1
def waV (f : Int) (xs : List Int) (age : Int) : Int := if skB f xs then (if 0 ≤ age ∧ age ≤ 150 then wk f xs age else 0) else 0

/-- What WorstAge returns. -/
def woV (f : Int) (xs : List Int) : Int := if skB f xs then f + (Greatest.bst xs xs.length : Int) else 0
def woC (f : Int) (xs : List Int) : Int := if skB f xs then 0 else 1

end Go.Proofs.YtmngljpncglchaaDoor.SickTables
