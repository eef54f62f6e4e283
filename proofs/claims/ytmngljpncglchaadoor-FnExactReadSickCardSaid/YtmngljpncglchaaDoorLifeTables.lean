/-
  Contracts of IsLifeTable of both packages.
  Conditions: the slice of the table reads as a list (Mem.Rd).
-/
import Derived.Test.YtmngljpncglchaaDoorLists
namespace Go.Proofs.YtmngljpncglchaaDoor.LifeTables
open Go.RowKit Mem
set_option linter.unusedVariables false

/-- The conditions on the first age, the first and the last number; the conditions on all numbers but the last. -/
def head (f : Int) (xs : List Int) : Prop := 0 ≤ f ∧ f ≤ 100 ∧ 2 ≤ xs.length ∧ xs.length ≤ 120 ∧ xs.getD 0 0 ≤ 1000000 ∧ xs.getD (xs.length - 1) 0 = 0 ∧ f + xs.length - 1 ≤ 150
def good (xs : List Int) : Prop := ∀ i, i + 1 < xs.length → 1 ≤ xs.getD i 0 ∧ (0 < i → xs.getD i 0 ≤ xs.getD (i - 1) 0)
noncomputable def ltB (f : Int) (xs : List Int) : Bool := @decide (head f xs ∧ good xs) (Classical.propDecidable _)
theorem ltB_yes {f : Int} {xs : List Int} (h : head f xs) (g : good xs) : ltB f xs = true := @decide_eq_true _ (Classical.propDecidable _) ⟨h, g⟩
theorem ltB_no {f : Int} {xs : List Int} (h : ¬ (head f xs ∧ good xs)) : ltB f xs = false := @decide_eq_false _ (Classical.propDecidable _) h
theorem ltB_of {f : Int} {xs : List Int} (h : ltB f xs = true) : head f xs ∧ good xs := @of_decide_eq_true _ (Classical.propDecidable _) h

theorem cell_after {w : World} {b j : Nat} {x : Value} (hb : b < w.heap.size) (h : w.cell? ⟨b, j, none⟩ = some x) : ∀ o, (w.alloc o).cell? ⟨b, j, none⟩ = some x := fun o =>
  (((Below.refl _ _).alloc (Nat.le_refl _) o : Below w.heap.size w (w.alloc o)).cell (p := ⟨b, j, none⟩) hb).trans h

set_option maxHeartbeats 2000000 in
theorem implIsLifeTable_any (f : Int) (v : Value) (xs : List Int) (w : World) (h : Rd w v xs) :
    Calls Tryd.prog 86 #[.agg #[.int .i64 f, v]] w fun e w' => e = .returned (.bool (ltB f xs)) ∧ Below w.heap.size w w' := by
  by_cases h1 : 0 ≤ f ∧ f ≤ 100
  case neg =>
    obtain ⟨a, c, rfl, hn⟩ := rd_shape h
    have HN := Lib.hid (ltB_no (f := f) (xs := xs) (fun q => h1 ⟨q.1.1, q.1.2.1⟩))
    have h1' : f < 0 ∨ 100 < f := by omega
    clear h h1
    go_enter Tryd.func86, Tryd.ntmps86
    go_wp2_with (first
      | (go_at_call 98; refine (Base.l01In_yes _ _ _ _ (by omega) (by omega)).mono ?_; rintro e w' ⟨rfl, rfl⟩)
      | (go_at_call 98; refine (Base.l01In_no _ _ _ _ (by omega)).mono ?_; rintro e w' ⟨rfl, rfl⟩)
      | (go_at_call 97; refine (Base.inRange_yes _ _ _ _ (by omega) (by omega)).mono ?_; rintro e w' ⟨rfl, rfl⟩)
      | (go_at_call 97; refine (Base.inRange_no _ _ _ _ (by omega)).mono ?_; rintro e w' ⟨rfl, rfl⟩)
      | (go_at_call 73; refine (Base.spec_l01Money_yes _ _ (by omega) (by omega)).mono ?_; rintro e w' ⟨rfl, rfl⟩)
      | (go_at_call 73; refine (Base.spec_l01Money_no _ _ (by omega)).mono ?_; rintro e w' ⟨rfl, rfl⟩)
      | (go_at_call 68; refine (Base.impl_isMoney_yes _ _ (by omega) (by omega)).mono ?_; rintro e w' ⟨rfl, rfl⟩)
      | (go_at_call 68; refine (Base.impl_isMoney_no _ _ (by omega)).mono ?_; rintro e w' ⟨rfl, rfl⟩)
      | (go_at_call 79; refine (Base.spec_l02Month_yes _ _ (by omega) (by omega)).mono ?_; rintro e w' ⟨rfl, rfl⟩)
      | (go_at_call 79; refine (Base.spec_l02Month_no _ _ (by omega)).mono ?_; rintro e w' ⟨rfl, rfl⟩)
      | (go_at_call 81; refine (Base.impl_isMonth_yes _ _ (by omega) (by omega)).mono ?_; rintro e w' ⟨rfl, rfl⟩)
      | (go_at_call 81; refine (Base.impl_isMonth_no _ _ (by omega)).mono ?_; rintro e w' ⟨rfl, rfl⟩)
      | (go_at_call 120; refine (Lists.length_any _ _ _ _ (by omega)).mono ?_; rintro e w' ⟨rfl, rfl⟩)
     )
    go_ret
    exact ⟨Base.ret_bool HN.out.symm, (Below.refl _ _).alloc (by omega) _⟩
  obtain ⟨f1, f2⟩ := h1
  by_cases h2 : 2 ≤ xs.length ∧ xs.length ≤ 120
  case neg =>
    obtain ⟨a, c, rfl, hn⟩ := rd_shape h
    have HN := Lib.hid (ltB_no (f := f) (xs := xs) (fun q => h2 ⟨q.1.2.2.1, q.1.2.2.2.1⟩))
    have h2' : (xs.length : Int) < 2 ∨ 120 < (xs.length : Int) := by omega
    clear h h2
    go_enter Tryd.func86, Tryd.ntmps86
    go_wp2_with (first
      | (go_at_call 98; refine (Base.l01In_yes _ _ _ _ (by omega) (by omega)).mono ?_; rintro e w' ⟨rfl, rfl⟩)
      | (go_at_call 98; refine (Base.l01In_no _ _ _ _ (by omega)).mono ?_; rintro e w' ⟨rfl, rfl⟩)
      | (go_at_call 97; refine (Base.inRange_yes _ _ _ _ (by omega) (by omega)).mono ?_; rintro e w' ⟨rfl, rfl⟩)
      | (go_at_call 97; refine (Base.inRange_no _ _ _ _ (by omega)).mono ?_; rintro e w' ⟨rfl, rfl⟩)
      | (go_at_call 73; refine (Base.spec_l01Money_yes _ _ (by omega) (by omega)).mono ?_; rintro e w' ⟨rfl, rfl⟩)
      | (go_at_call 73; refine (Base.spec_l01Money_no _ _ (by omega)).mono ?_; rintro e w' ⟨rfl, rfl⟩)
      | (go_at_call 68; refine (Base.impl_isMoney_yes _ _ (by omega) (by omega)).mono ?_; rintro e w' ⟨rfl, rfl⟩)
      | (go_at_call 68; refine (Base.impl_isMoney_no _ _ (by omega)).mono ?_; rintro e w' ⟨rfl, rfl⟩)
      | (go_at_call 79; refine (Base.spec_l02Month_yes _ _ (by omega) (by omega)).mono ?_; rintro e w' ⟨rfl, rfl⟩)
      | (go_at_call 79; refine (Base.spec_l02Month_no _ _ (by omega)).mono ?_; rintro e w' ⟨rfl, rfl⟩)
      | (go_at_call 81; refine (Base.impl_isMonth_yes _ _ (by omega) (by omega)).mono ?_; rintro e w' ⟨rfl, rfl⟩)
      | (go_at_call 81; refine (Base.impl_isMonth_no _ _ (by omega)).mono ?_; rintro e w' ⟨rfl, rfl⟩)
      | (go_at_call 120; refine (Lists.length_any _ _ _ _ (by omega)).mono ?_; rintro e w' ⟨rfl, rfl⟩)
     )
    go_ret
    exact ⟨Base.ret_bool HN.out.symm, (Below.refl _ _).alloc (by omega) _⟩
  obtain ⟨n1, n2⟩ := h2
  rcases h with ⟨rfl, rfl⟩ | ⟨b, off, cap, rfl, hn, hl, hm, hbl, hx⟩
  · simp at n1
  have hc0 := cell_after hbl (hx 0 (by omega))
  rw [Nat.add_zero] at hc0
  have hcl := cell_after hbl (hx (xs.length - 1) (by omega))
  have HX := Lib.hid hx
  clear hx
  by_cases h3 : xs.getD 0 0 ≤ 1000000
  case neg =>
    have HN := Lib.hid (ltB_no (f := f) (xs := xs) (fun q => h3 q.1.2.2.2.2.1))
    have h3' : 1000000 < xs.getD 0 0 := by omega
    clear h3 hcl
    generalize xs.getD 0 0 = x0 at *
    go_enter Tryd.func86, Tryd.ntmps86
    go_wp2_with (first
      | (go_at_call 98; refine (Base.l01In_yes _ _ _ _ (by omega) (by omega)).mono ?_; rintro e w' ⟨rfl, rfl⟩)
      | (go_at_call 98; refine (Base.l01In_no _ _ _ _ (by omega)).mono ?_; rintro e w' ⟨rfl, rfl⟩)
      | (go_at_call 97; refine (Base.inRange_yes _ _ _ _ (by omega) (by omega)).mono ?_; rintro e w' ⟨rfl, rfl⟩)
      | (go_at_call 97; refine (Base.inRange_no _ _ _ _ (by omega)).mono ?_; rintro e w' ⟨rfl, rfl⟩)
      | (go_at_call 73; refine (Base.spec_l01Money_yes _ _ (by omega) (by omega)).mono ?_; rintro e w' ⟨rfl, rfl⟩)
      | (go_at_call 73; refine (Base.spec_l01Money_no _ _ (by omega)).mono ?_; rintro e w' ⟨rfl, rfl⟩)
      | (go_at_call 68; refine (Base.impl_isMoney_yes _ _ (by omega) (by omega)).mono ?_; rintro e w' ⟨rfl, rfl⟩)
      | (go_at_call 68; refine (Base.impl_isMoney_no _ _ (by omega)).mono ?_; rintro e w' ⟨rfl, rfl⟩)
      | (go_at_call 79; refine (Base.spec_l02Month_yes _ _ (by omega) (by omega)).mono ?_; rintro e w' ⟨rfl, rfl⟩)
      | (go_at_call 79; refine (Base.spec_l02Month_no _ _ (by omega)).mono ?_; rintro e w' ⟨rfl, rfl⟩)
      | (go_at_call 81; refine (Base.impl_isMonth_yes _ _ (by omega) (by omega)).mono ?_; rintro e w' ⟨rfl, rfl⟩)
      | (go_at_call 81; refine (Base.impl_isMonth_no _ _ (by omega)).mono ?_; rintro e w' ⟨rfl, rfl⟩)
      | (go_at_call 120; refine (Lists.length_any _ _ _ _ (by omega)).mono ?_; rintro e w' ⟨rfl, rfl⟩)
     )
    go_ret
    exact ⟨Base.ret_bool HN.out.symm, (Below.refl _ _).alloc (by omega) _⟩
  by_cases h4 : xs.getD (xs.length - 1) 0 = 0
  case neg =>
    have HN := Lib.hid (ltB_no (f := f) (xs := xs) (fun q => h4 q.1.2.2.2.2.2.1))
    have h4' : xs.getD (xs.length - 1) 0 < 0 ∨ 0 < xs.getD (xs.length - 1) 0 := by omega
    clear h4
    generalize xs.getD 0 0 = x0 at *
    generalize xs.getD (xs.length - 1) 0 = xl at *
    go_enter Tryd.func86, Tryd.ntmps86
    go_wp2_with (first
      | (go_at_call 98; refine (Base.l01In_yes _ _ _ _ (by omega) (by omega)).mono ?_; rintro e w' ⟨rfl, rfl⟩)
      | (go_at_call 98; refine (Base.l01In_no _ _ _ _ (by omega)).mono ?_; rintro e w' ⟨rfl, rfl⟩)
      | (go_at_call 97; refine (Base.inRange_yes _ _ _ _ (by omega) (by omega)).mono ?_; rintro e w' ⟨rfl, rfl⟩)
      | (go_at_call 97; refine (Base.inRange_no _ _ _ _ (by omega)).mono ?_; rintro e w' ⟨rfl, rfl⟩)
      | (go_at_call 73; refine (Base.spec_l01Money_yes _ _ (by omega) (by omega)).mono ?_; rintro e w' ⟨rfl, rfl⟩)
      | (go_at_call 73; refine (Base.spec_l01Money_no _ _ (by omega)).mono ?_; rintro e w' ⟨rfl, rfl⟩)
      | (go_at_call 68; refine (Base.impl_isMoney_yes _ _ (by omega) (by omega)).mono ?_; rintro e w' ⟨rfl, rfl⟩)
      | (go_at_call 68; refine (Base.impl_isMoney_no _ _ (by omega)).mono ?_; rintro e w' ⟨rfl, rfl⟩)
      | (go_at_call 79; refine (Base.spec_l02Month_yes _ _ (by omega) (by omega)).mono ?_; rintro e w' ⟨rfl, rfl⟩)
      | (go_at_call 79; refine (Base.spec_l02Month_no _ _ (by omega)).mono ?_; rintro e w' ⟨rfl, rfl⟩)
      | (go_at_call 81; refine (Base.impl_isMonth_yes _ _ (by omega) (by omega)).mono ?_; rintro e w' ⟨rfl, rfl⟩)
      | (go_at_call 81; refine (Base.impl_isMonth_no _ _ (by omega)).mono ?_; rintro e w' ⟨rfl, rfl⟩)
      | (go_at_call 120; refine (Lists.length_any _ _ _ _ (by omega)).mono ?_; rintro e w' ⟨rfl, rfl⟩)
     )
    go_ret
    exact ⟨Base.ret_bool HN.out.symm, (Below.refl _ _).alloc (by omega) _⟩
  rw [h4] at hcl
  have H4 := Lib.hid h4
  clear h4
  by_cases h5 : f + xs.length - 1 ≤ 150
  case neg =>
    have HN := Lib.hid (ltB_no (f := f) (xs := xs) (fun q => h5 q.1.2.2.2.2.2.2))
    have h5' : 150 < f + xs.length - 1 := by omega
    clear h5
    generalize xs.getD 0 0 = x0 at *
    go_enter Tryd.func86, Tryd.ntmps86
    go_wp2_with (first
      | (go_at_call 98; refine (Base.l01In_yes _ _ _ _ (by omega) (by omega)).mono ?_; rintro e w' ⟨rfl, rfl⟩)
      | (go_at_call 98; refine (Base.l01In_no _ _ _ _ (by omega)).mono ?_; rintro e w' ⟨rfl, rfl⟩)
      | (go_at_call 97; refine (Base.inRange_yes _ _ _ _ (by omega) (by omega)).mono ?_; rintro e w' ⟨rfl, rfl⟩)
      | (go_at_call 97; refine (Base.inRange_no _ _ _ _ (by omega)).mono ?_; rintro e w' ⟨rfl, rfl⟩)
      | (go_at_call 73; refine (Base.spec_l01Money_yes _ _ (by omega) (by omega)).mono ?_; rintro e w' ⟨rfl, rfl⟩)
      | (go_at_call 73; refine (Base.spec_l01Money_no _ _ (by omega)).mono ?_; rintro e w' ⟨rfl, rfl⟩)
      | (go_at_call 68; refine (Base.impl_isMoney_yes _ _ (by omega) (by omega)).mono ?_; rintro e w' ⟨rfl, rfl⟩)
      | (go_at_call 68; refine (Base.impl_isMoney_no _ _ (by omega)).mono ?_; rintro e w' ⟨rfl, rfl⟩)
      | (go_at_call 79; refine (Base.spec_l02Month_yes _ _ (by omega) (by omega)).mono ?_; rintro e w' ⟨rfl, rfl⟩)
      | (go_at_call 79; refine (Base.spec_l02Month_no _ _ (by omega)).mono ?_; rintro e w' ⟨rfl, rfl⟩)
      | (go_at_call 81; refine (Base.impl_isMonth_yes _ _ (by omega) (by omega)).mono ?_; rintro e w' ⟨rfl, rfl⟩)
      | (go_at_call 81; refine (Base.impl_isMonth_no _ _ (by omega)).mono ?_; rintro e w' ⟨rfl, rfl⟩)
      | (go_at_call 120; refine (Lists.length_any _ _ _ _ (by omega)).mono ?_; rintro e w' ⟨rfl, rfl⟩)
     )
    go_ret
    exact ⟨Base.ret_bool HN.out.symm, (Below.refl _ _).alloc (by omega) _⟩
  have HH : Hid (head f xs) := ⟨f1, f2, n1, n2, h3, H4.out, h5⟩
  have hd1 : decide (1000000 < xs.getD 0 0) = false := by simpa using h3
  have hd2 : decide (150 < f + (xs.length : Int) - 1) = false := by simp; omega
  generalize xs.getD 0 0 = x0 at *
  go_enter Tryd.func86, Tryd.ntmps86
  go_wp2_with (first
      | (go_at_call 98; refine (Base.l01In_yes _ _ _ _ (by omega) (by omega)).mono ?_; rintro e w' ⟨rfl, rfl⟩)
      | (go_at_call 98; refine (Base.l01In_no _ _ _ _ (by omega)).mono ?_; rintro e w' ⟨rfl, rfl⟩)
      | (go_at_call 97; refine (Base.inRange_yes _ _ _ _ (by omega) (by omega)).mono ?_; rintro e w' ⟨rfl, rfl⟩)
      | (go_at_call 97; refine (Base.inRange_no _ _ _ _ (by omega)).mono ?_; rintro e w' ⟨rfl, rfl⟩)
      | (go_at_call 73; refine (Base.spec_l01Money_yes _ _ (by omega) (by omega)).mono ?_; rintro e w' ⟨rfl, rfl⟩)
      | (go_at_call 73; refine (Base.spec_l01Money_no _ _ (by omega)).mono ?_; rintro e w' ⟨rfl, rfl⟩)
      | (go_at_call 68; refine (Base.impl_isMoney_yes _ _ (by omega) (by omega)).mono ?_; rintro e w' ⟨rfl, rfl⟩)
      | (go_at_call 68; refine (Base.impl_isMoney_no _ _ (by omega)).mono ?_; rintro e w' ⟨rfl, rfl⟩)
      | (go_at_call 79; refine (Base.spec_l02Month_yes _ _ (by omega) (by omega)).mono ?_; rintro e w' ⟨rfl, rfl⟩)
      | (go_at_call 79; refine (Base.spec_l02Month_no _ _ (by omega)).mono ?_; rintro e w' ⟨rfl, rfl⟩)
      | (go_at_call 81; refine (Base.impl_isMonth_yes _ _ (by omega) (by omega)).mono ?_; rintro e w' ⟨rfl, rfl⟩)
      | (go_at_call 81; refine (Base.impl_isMonth_no _ _ (by omega)).mono ?_; rintro e w' ⟨rfl, rfl⟩)
      | (go_at_call 120; refine (Lists.length_any _ _ _ _ (by omega)).mono ?_; rintro e w' ⟨rfl, rfl⟩)
     )
  go_loopw [48] (fun i wr => ∃ (k q : Nat), k + 1 ≤ xs.length ∧ i = .int .i64 k ∧ Hid (∀ j, j < k → 1 ≤ xs.getD j 0 ∧ (0 < j → xs.getD j 0 ≤ xs.getD (j - 1) 0)) ∧ wr = (w.alloc (.cells #[.int .i64 f, .slice (some ⟨b, off, none⟩) xs.length cap] 39)).drewN q) (fun i _ => xs.length - (intOf i).toNat)
  case atStart => exact ⟨0, 0, by omega, rfl, (fun j hj => by omega), rfl⟩
  case round =>
    obtain ⟨k, q, hk, rfl, H, rfl⟩ := hrel
    clear hc0 hcl
    by_cases hlt : k + 1 < xs.length
    · have hck := cell_after hbl (HX.out k (by omega))
      have hcp := cell_after hbl (HX.out (k - 1) (by omega))
      have NG : ∀ (h : ¬ (1 ≤ xs.getD k 0 ∧ (0 < k → xs.getD k 0 ≤ xs.getD (k - 1) 0))), ltB f xs = false := fun h => ltB_no (fun q => h (q.2 k hlt))
      have NG' := Lib.hid NG
      have HS : 1 ≤ xs.getD k 0 ∧ (0 < k → xs.getD k 0 ≤ xs.getD (k - 1) 0) → Hid (∀ j, j < k + 1 → 1 ≤ xs.getD j 0 ∧ (0 < j → xs.getD j 0 ≤ xs.getD (j - 1) 0)) := by
        intro g j hj
        by_cases e : j = k
        · subst e; exact g
        · exact H.out j (by omega)
      have HS' := Lib.hid HS
      clear NG HS
      generalize xs.getD k 0 = x at *
      generalize xs.getD (k - 1) 0 = y at *
      by_cases c1 : x < 1
      · have HN := Lib.hid (NG'.out (by omega))
        go_wp2
        go_ret
        exact ⟨Base.ret_bool HN.out.symm, below_drewN ((Below.refl _ _).alloc (by omega) _) _⟩
      · by_cases c2 : k = 0
        · have hs := Lib.hid (HS'.out ⟨by omega, fun h => by omega⟩)
          have c2' : (k : Int) ≤ 0 := by omega
          clear c2
          go_wp2
          go_roundw
          case rel => exact ⟨k + 1, _, by omega, by go_num, hs.out, by first | rfl | exact World.drewN_drewN ..⟩
          case measure => simp [intOf]; omega
        · have c2' : 0 < (k : Int) := by omega
          by_cases c3 : y < x
          · have HN := Lib.hid (NG'.out (fun g => by have := g.2 (by omega); omega))
            clear c2
            go_wp2
            go_ret
            exact ⟨Base.ret_bool HN.out.symm, below_drewN ((Below.refl _ _).alloc (by omega) _) _⟩
          · have hs := Lib.hid (HS'.out ⟨by omega, fun h => by omega⟩)
            clear c2
            go_wp2
            go_roundw
            case rel => exact ⟨k + 1, _, by omega, by go_num, hs.out, by first | rfl | exact World.drewN_drewN ..⟩
            case measure => simp [intOf]; omega
    · have HY := Lib.hid (ltB_yes HH.out (fun i hi => H.out i (by omega)))
      have hge : (xs.length : Int) - 1 ≤ (k : Int) := by omega
      go_wp2
      go_ret
      exact ⟨Base.ret_bool HY.out.symm, below_drewN ((Below.refl _ _).alloc (by omega) _) _⟩

set_option maxHeartbeats 2000000 in
theorem specIsLifeTable_any (f : Int) (v : Value) (xs : List Int) (w : World) (h : Rd w v xs) :
    Calls Tryd.prog 83 #[.agg #[.int .i64 f, v]] w fun e w' => e = .returned (.bool (ltB f xs)) ∧ Below w.heap.size w w' := by
  by_cases h2 : 2 ≤ xs.length
  case neg =>
    obtain ⟨a, c, rfl, hn⟩ := rd_shape h
    have HN := Lib.hid (ltB_no (f := f) (xs := xs) (fun q => h2 q.1.2.2.1))
    have h2' : (xs.length : Int) < 2 := by omega
    clear h h2
    go_enter Tryd.func83, Tryd.ntmps83
    go_wp2_with (first
      | (go_at_call 98; refine (Base.l01In_yes _ _ _ _ (by omega) (by omega)).mono ?_; rintro e w' ⟨rfl, rfl⟩)
      | (go_at_call 98; refine (Base.l01In_no _ _ _ _ (by omega)).mono ?_; rintro e w' ⟨rfl, rfl⟩)
      | (go_at_call 97; refine (Base.inRange_yes _ _ _ _ (by omega) (by omega)).mono ?_; rintro e w' ⟨rfl, rfl⟩)
      | (go_at_call 97; refine (Base.inRange_no _ _ _ _ (by omega)).mono ?_; rintro e w' ⟨rfl, rfl⟩)
      | (go_at_call 73; refine (Base.spec_l01Money_yes _ _ (by omega) (by omega)).mono ?_; rintro e w' ⟨rfl, rfl⟩)
      | (go_at_call 73; refine (Base.spec_l01Money_no _ _ (by omega)).mono ?_; rintro e w' ⟨rfl, rfl⟩)
      | (go_at_call 68; refine (Base.impl_isMoney_yes _ _ (by omega) (by omega)).mono ?_; rintro e w' ⟨rfl, rfl⟩)
      | (go_at_call 68; refine (Base.impl_isMoney_no _ _ (by omega)).mono ?_; rintro e w' ⟨rfl, rfl⟩)
      | (go_at_call 79; refine (Base.spec_l02Month_yes _ _ (by omega) (by omega)).mono ?_; rintro e w' ⟨rfl, rfl⟩)
      | (go_at_call 79; refine (Base.spec_l02Month_no _ _ (by omega)).mono ?_; rintro e w' ⟨rfl, rfl⟩)
      | (go_at_call 81; refine (Base.impl_isMonth_yes _ _ (by omega) (by omega)).mono ?_; rintro e w' ⟨rfl, rfl⟩)
      | (go_at_call 81; refine (Base.impl_isMonth_no _ _ (by omega)).mono ?_; rintro e w' ⟨rfl, rfl⟩)
      | (go_at_call 120; refine (Lists.length_any _ _ _ _ (by omega)).mono ?_; rintro e w' ⟨rfl, rfl⟩)
     )
    go_ret
    exact ⟨Base.ret_bool HN.out.symm, (Below.refl _ _).alloc (by omega) _⟩
  by_cases h2b : xs.length ≤ 120
  case neg =>
    obtain ⟨a, c, rfl, hn⟩ := rd_shape h
    have HN := Lib.hid (ltB_no (f := f) (xs := xs) (fun q => h2b q.1.2.2.2.1))
    have h2' : 120 < (xs.length : Int) := by omega
    clear h h2b
    go_enter Tryd.func83, Tryd.ntmps83
    go_wp2_with (first
      | (go_at_call 98; refine (Base.l01In_yes _ _ _ _ (by omega) (by omega)).mono ?_; rintro e w' ⟨rfl, rfl⟩)
      | (go_at_call 98; refine (Base.l01In_no _ _ _ _ (by omega)).mono ?_; rintro e w' ⟨rfl, rfl⟩)
      | (go_at_call 97; refine (Base.inRange_yes _ _ _ _ (by omega) (by omega)).mono ?_; rintro e w' ⟨rfl, rfl⟩)
      | (go_at_call 97; refine (Base.inRange_no _ _ _ _ (by omega)).mono ?_; rintro e w' ⟨rfl, rfl⟩)
      | (go_at_call 73; refine (Base.spec_l01Money_yes _ _ (by omega) (by omega)).mono ?_; rintro e w' ⟨rfl, rfl⟩)
      | (go_at_call 73; refine (Base.spec_l01Money_no _ _ (by omega)).mono ?_; rintro e w' ⟨rfl, rfl⟩)
      | (go_at_call 68; refine (Base.impl_isMoney_yes _ _ (by omega) (by omega)).mono ?_; rintro e w' ⟨rfl, rfl⟩)
      | (go_at_call 68; refine (Base.impl_isMoney_no _ _ (by omega)).mono ?_; rintro e w' ⟨rfl, rfl⟩)
      | (go_at_call 79; refine (Base.spec_l02Month_yes _ _ (by omega) (by omega)).mono ?_; rintro e w' ⟨rfl, rfl⟩)
      | (go_at_call 79; refine (Base.spec_l02Month_no _ _ (by omega)).mono ?_; rintro e w' ⟨rfl, rfl⟩)
      | (go_at_call 81; refine (Base.impl_isMonth_yes _ _ (by omega) (by omega)).mono ?_; rintro e w' ⟨rfl, rfl⟩)
      | (go_at_call 81; refine (Base.impl_isMonth_no _ _ (by omega)).mono ?_; rintro e w' ⟨rfl, rfl⟩)
      | (go_at_call 120; refine (Lists.length_any _ _ _ _ (by omega)).mono ?_; rintro e w' ⟨rfl, rfl⟩)
     )
    go_ret
    exact ⟨Base.ret_bool HN.out.symm, (Below.refl _ _).alloc (by omega) _⟩
  by_cases h1 : 0 ≤ f ∧ f ≤ 100
  case neg =>
    obtain ⟨a, c, rfl, hn⟩ := rd_shape h
    have HN := Lib.hid (ltB_no (f := f) (xs := xs) (fun q => h1 ⟨q.1.1, q.1.2.1⟩))
    have h1' : f < 0 ∨ 100 < f := by omega
    clear h h1
    go_enter Tryd.func83, Tryd.ntmps83
    go_wp2_with (first
      | (go_at_call 98; refine (Base.l01In_yes _ _ _ _ (by omega) (by omega)).mono ?_; rintro e w' ⟨rfl, rfl⟩)
      | (go_at_call 98; refine (Base.l01In_no _ _ _ _ (by omega)).mono ?_; rintro e w' ⟨rfl, rfl⟩)
      | (go_at_call 97; refine (Base.inRange_yes _ _ _ _ (by omega) (by omega)).mono ?_; rintro e w' ⟨rfl, rfl⟩)
      | (go_at_call 97; refine (Base.inRange_no _ _ _ _ (by omega)).mono ?_; rintro e w' ⟨rfl, rfl⟩)
      | (go_at_call 73; refine (Base.spec_l01Money_yes _ _ (by omega) (by omega)).mono ?_; rintro e w' ⟨rfl, rfl⟩)
      | (go_at_call 73; refine (Base.spec_l01Money_no _ _ (by omega)).mono ?_; rintro e w' ⟨rfl, rfl⟩)
      | (go_at_call 68; refine (Base.impl_isMoney_yes _ _ (by omega) (by omega)).mono ?_; rintro e w' ⟨rfl, rfl⟩)
      | (go_at_call 68; refine (Base.impl_isMoney_no _ _ (by omega)).mono ?_; rintro e w' ⟨rfl, rfl⟩)
      | (go_at_call 79; refine (Base.spec_l02Month_yes _ _ (by omega) (by omega)).mono ?_; rintro e w' ⟨rfl, rfl⟩)
      | (go_at_call 79; refine (Base.spec_l02Month_no _ _ (by omega)).mono ?_; rintro e w' ⟨rfl, rfl⟩)
      | (go_at_call 81; refine (Base.impl_isMonth_yes _ _ (by omega) (by omega)).mono ?_; rintro e w' ⟨rfl, rfl⟩)
      | (go_at_call 81; refine (Base.impl_isMonth_no _ _ (by omega)).mono ?_; rintro e w' ⟨rfl, rfl⟩)
      | (go_at_call 120; refine (Lists.length_any _ _ _ _ (by omega)).mono ?_; rintro e w' ⟨rfl, rfl⟩)
     )
    go_ret
    exact ⟨Base.ret_bool HN.out.symm, (Below.refl _ _).alloc (by omega) _⟩
  obtain ⟨f1, f2⟩ := h1
  rcases h with ⟨rfl, rfl⟩ | ⟨b, off, cap, rfl, hn, hl, hm, hbl, hx⟩
  · simp at h2
  have hc0 := cell_after hbl (hx 0 (by omega))
  rw [Nat.add_zero] at hc0
  have hcl := cell_after hbl (hx (xs.length - 1) (by omega))
  have HX := Lib.hid hx
  clear hx
  by_cases h3 : 1 ≤ xs.getD 0 0 ∧ xs.getD 0 0 ≤ 1000000
  case neg =>
    have HN := Lib.hid (ltB_no (f := f) (xs := xs) (fun q => h3 ⟨(q.2 0 (by omega)).1, q.1.2.2.2.2.1⟩))
    have h3' : xs.getD 0 0 < 1 ∨ 1000000 < xs.getD 0 0 := by omega
    clear h3 hcl
    generalize xs.getD 0 0 = x0 at *
    go_enter Tryd.func83, Tryd.ntmps83
    go_wp2_with (first
      | (go_at_call 98; refine (Base.l01In_yes _ _ _ _ (by omega) (by omega)).mono ?_; rintro e w' ⟨rfl, rfl⟩)
      | (go_at_call 98; refine (Base.l01In_no _ _ _ _ (by omega)).mono ?_; rintro e w' ⟨rfl, rfl⟩)
      | (go_at_call 97; refine (Base.inRange_yes _ _ _ _ (by omega) (by omega)).mono ?_; rintro e w' ⟨rfl, rfl⟩)
      | (go_at_call 97; refine (Base.inRange_no _ _ _ _ (by omega)).mono ?_; rintro e w' ⟨rfl, rfl⟩)
      | (go_at_call 73; refine (Base.spec_l01Money_yes _ _ (by omega) (by omega)).mono ?_; rintro e w' ⟨rfl, rfl⟩)
      | (go_at_call 73; refine (Base.spec_l01Money_no _ _ (by omega)).mono ?_; rintro e w' ⟨rfl, rfl⟩)
      | (go_at_call 68; refine (Base.impl_isMoney_yes _ _ (by omega) (by omega)).mono ?_; rintro e w' ⟨rfl, rfl⟩)
      | (go_at_call 68; refine (Base.impl_isMoney_no _ _ (by omega)).mono ?_; rintro e w' ⟨rfl, rfl⟩)
      | (go_at_call 79; refine (Base.spec_l02Month_yes _ _ (by omega) (by omega)).mono ?_; rintro e w' ⟨rfl, rfl⟩)
      | (go_at_call 79; refine (Base.spec_l02Month_no _ _ (by omega)).mono ?_; rintro e w' ⟨rfl, rfl⟩)
      | (go_at_call 81; refine (Base.impl_isMonth_yes _ _ (by omega) (by omega)).mono ?_; rintro e w' ⟨rfl, rfl⟩)
      | (go_at_call 81; refine (Base.impl_isMonth_no _ _ (by omega)).mono ?_; rintro e w' ⟨rfl, rfl⟩)
      | (go_at_call 120; refine (Lists.length_any _ _ _ _ (by omega)).mono ?_; rintro e w' ⟨rfl, rfl⟩)
     )
    go_ret
    exact ⟨Base.ret_bool HN.out.symm, (Below.refl _ _).alloc (by omega) _⟩
  obtain ⟨h3a, h3⟩ := h3
  by_cases h4 : xs.getD (xs.length - 1) 0 = 0
  case neg =>
    have HN := Lib.hid (ltB_no (f := f) (xs := xs) (fun q => h4 q.1.2.2.2.2.2.1))
    have h4' : xs.getD (xs.length - 1) 0 < 0 ∨ 0 < xs.getD (xs.length - 1) 0 := by omega
    clear h4
    generalize xs.getD 0 0 = x0 at *
    generalize xs.getD (xs.length - 1) 0 = xl at *
    go_enter Tryd.func83, Tryd.ntmps83
    go_wp2_with (first
      | (go_at_call 98; refine (Base.l01In_yes _ _ _ _ (by omega) (by omega)).mono ?_; rintro e w' ⟨rfl, rfl⟩)
      | (go_at_call 98; refine (Base.l01In_no _ _ _ _ (by omega)).mono ?_; rintro e w' ⟨rfl, rfl⟩)
      | (go_at_call 97; refine (Base.inRange_yes _ _ _ _ (by omega) (by omega)).mono ?_; rintro e w' ⟨rfl, rfl⟩)
      | (go_at_call 97; refine (Base.inRange_no _ _ _ _ (by omega)).mono ?_; rintro e w' ⟨rfl, rfl⟩)
      | (go_at_call 73; refine (Base.spec_l01Money_yes _ _ (by omega) (by omega)).mono ?_; rintro e w' ⟨rfl, rfl⟩)
      | (go_at_call 73; refine (Base.spec_l01Money_no _ _ (by omega)).mono ?_; rintro e w' ⟨rfl, rfl⟩)
      | (go_at_call 68; refine (Base.impl_isMoney_yes _ _ (by omega) (by omega)).mono ?_; rintro e w' ⟨rfl, rfl⟩)
      | (go_at_call 68; refine (Base.impl_isMoney_no _ _ (by omega)).mono ?_; rintro e w' ⟨rfl, rfl⟩)
      | (go_at_call 79; refine (Base.spec_l02Month_yes _ _ (by omega) (by omega)).mono ?_; rintro e w' ⟨rfl, rfl⟩)
      | (go_at_call 79; refine (Base.spec_l02Month_no _ _ (by omega)).mono ?_; rintro e w' ⟨rfl, rfl⟩)
      | (go_at_call 81; refine (Base.impl_isMonth_yes _ _ (by omega) (by omega)).mono ?_; rintro e w' ⟨rfl, rfl⟩)
      | (go_at_call 81; refine (Base.impl_isMonth_no _ _ (by omega)).mono ?_; rintro e w' ⟨rfl, rfl⟩)
      | (go_at_call 120; refine (Lists.length_any _ _ _ _ (by omega)).mono ?_; rintro e w' ⟨rfl, rfl⟩)
     )
    go_ret
    exact ⟨Base.ret_bool HN.out.symm, (Below.refl _ _).alloc (by omega) _⟩
  rw [h4] at hcl
  have H4 := Lib.hid h4
  clear h4
  by_cases h5 : f + xs.length - 1 ≤ 150
  case neg =>
    have HN := Lib.hid (ltB_no (f := f) (xs := xs) (fun q => h5 q.1.2.2.2.2.2.2))
    have h5' : 150 < f + xs.length - 1 := by omega
    clear h5
    generalize xs.getD 0 0 = x0 at *
    go_enter Tryd.func83, Tryd.ntmps83
    go_wp2_with (first
      | (go_at_call 98; refine (Base.l01In_yes _ _ _ _ (by omega) (by omega)).mono ?_; rintro e w' ⟨rfl, rfl⟩)
      | (go_at_call 98; refine (Base.l01In_no _ _ _ _ (by omega)).mono ?_; rintro e w' ⟨rfl, rfl⟩)
      | (go_at_call 97; refine (Base.inRange_yes _ _ _ _ (by omega) (by omega)).mono ?_; rintro e w' ⟨rfl, rfl⟩)
      | (go_at_call 97; refine (Base.inRange_no _ _ _ _ (by omega)).mono ?_; rintro e w' ⟨rfl, rfl⟩)
      | (go_at_call 73; refine (Base.spec_l01Money_yes _ _ (by omega) (by omega)).mono ?_; rintro e w' ⟨rfl, rfl⟩)
      | (go_at_call 73; refine (Base.spec_l01Money_no _ _ (by omega)).mono ?_; rintro e w' ⟨rfl, rfl⟩)
      | (go_at_call 68; refine (Base.impl_isMoney_yes _ _ (by omega) (by omega)).mono ?_; rintro e w' ⟨rfl, rfl⟩)
      | (go_at_call 68; refine (Base.impl_isMoney_no _ _ (by omega)).mono ?_; rintro e w' ⟨rfl, rfl⟩)
      | (go_at_call 79; refine (Base.spec_l02Month_yes _ _ (by omega) (by omega)).mono ?_; rintro e w' ⟨rfl, rfl⟩)
      | (go_at_call 79; refine (Base.spec_l02Month_no _ _ (by omega)).mono ?_; rintro e w' ⟨rfl, rfl⟩)
      | (go_at_call 81; refine (Base.impl_isMonth_yes _ _ (by omega) (by omega)).mono ?_; rintro e w' ⟨rfl, rfl⟩)
      | (go_at_call 81; refine (Base.impl_isMonth_no _ _ (by omega)).mono ?_; rintro e w' ⟨rfl, rfl⟩)
      | (go_at_call 120; refine (Lists.length_any _ _ _ _ (by omega)).mono ?_; rintro e w' ⟨rfl, rfl⟩)
     )
    go_ret
    exact ⟨Base.ret_bool HN.out.symm, (Below.refl _ _).alloc (by omega) _⟩
  have HH : Hid (head f xs) := ⟨f1, f2, h2, h2b, h3, H4.out, h5⟩
  have HF : Hid (∀ j, j < 1 → j + 1 < xs.length → 1 ≤ xs.getD j 0 ∧ (0 < j → xs.getD j 0 ≤ xs.getD (j - 1) 0)) := by
    intro j hj _
    obtain rfl : j = 0 := by omega
    exact ⟨h3a, fun h => by omega⟩
  have hd1 : decide (120 < (xs.length : Int)) = false := by simp; omega
  have hd0 : decide ((xs.length : Int) < 2) = false := by simp; omega
  have hd2 : decide (150 < f + (xs.length : Int) - 1) = false := by simp; omega
  generalize xs.getD 0 0 = x0 at hc0 h3a h3
  go_enter Tryd.func83, Tryd.ntmps83
  go_wp2_with (first
      | (go_at_call 98; refine (Base.l01In_yes _ _ _ _ (by omega) (by omega)).mono ?_; rintro e w' ⟨rfl, rfl⟩)
      | (go_at_call 98; refine (Base.l01In_no _ _ _ _ (by omega)).mono ?_; rintro e w' ⟨rfl, rfl⟩)
      | (go_at_call 97; refine (Base.inRange_yes _ _ _ _ (by omega) (by omega)).mono ?_; rintro e w' ⟨rfl, rfl⟩)
      | (go_at_call 97; refine (Base.inRange_no _ _ _ _ (by omega)).mono ?_; rintro e w' ⟨rfl, rfl⟩)
      | (go_at_call 73; refine (Base.spec_l01Money_yes _ _ (by omega) (by omega)).mono ?_; rintro e w' ⟨rfl, rfl⟩)
      | (go_at_call 73; refine (Base.spec_l01Money_no _ _ (by omega)).mono ?_; rintro e w' ⟨rfl, rfl⟩)
      | (go_at_call 68; refine (Base.impl_isMoney_yes _ _ (by omega) (by omega)).mono ?_; rintro e w' ⟨rfl, rfl⟩)
      | (go_at_call 68; refine (Base.impl_isMoney_no _ _ (by omega)).mono ?_; rintro e w' ⟨rfl, rfl⟩)
      | (go_at_call 79; refine (Base.spec_l02Month_yes _ _ (by omega) (by omega)).mono ?_; rintro e w' ⟨rfl, rfl⟩)
      | (go_at_call 79; refine (Base.spec_l02Month_no _ _ (by omega)).mono ?_; rintro e w' ⟨rfl, rfl⟩)
      | (go_at_call 81; refine (Base.impl_isMonth_yes _ _ (by omega) (by omega)).mono ?_; rintro e w' ⟨rfl, rfl⟩)
      | (go_at_call 81; refine (Base.impl_isMonth_no _ _ (by omega)).mono ?_; rintro e w' ⟨rfl, rfl⟩)
      | (go_at_call 120; refine (Lists.length_any _ _ _ _ (by omega)).mono ?_; rintro e w' ⟨rfl, rfl⟩)
     )
  go_loopw [4] (fun i wr => ∃ (k q : Nat), 1 ≤ k ∧ k ≤ xs.length ∧ i = .int .i64 k ∧ Hid (∀ j, j < k → j + 1 < xs.length → 1 ≤ xs.getD j 0 ∧ (0 < j → xs.getD j 0 ≤ xs.getD (j - 1) 0)) ∧ wr = (w.alloc (.cells #[.int .i64 f, .slice (some ⟨b, off, none⟩) xs.length cap] 39)).drewN q) (fun i _ => xs.length - (intOf i).toNat)
  case atStart => exact ⟨1, 0, by omega, by omega, rfl, HF.out, rfl⟩
  case round =>
    obtain ⟨k, q, hk1, hk, rfl, H, rfl⟩ := hrel
    clear hc0 hcl
    by_cases hlt : k < xs.length
    · have hck := cell_after hbl (HX.out k (by omega))
      have hcp := cell_after hbl (HX.out (k - 1) (by omega))
      have NG : xs.getD (k - 1) 0 < xs.getD k 0 → ltB f xs = false := fun h => ltB_no (fun q => by
        by_cases e : k + 1 < xs.length
        · have := (q.2 k e).2 (by omega); omega
        · have e2 : k = xs.length - 1 := by omega
          have h0 : xs.getD k 0 = 0 := by rw [e2]; exact H4.out
          have := (q.2 (k - 1) (by omega)).1
          omega)
      have NG2 : k + 1 < xs.length → xs.getD k 0 < 1 → ltB f xs = false := fun e h => ltB_no (fun q => by have := (q.2 k e).1; omega)
      have NG' := Lib.hid NG
      have NG2' := Lib.hid NG2
      have HS : xs.getD k 0 ≤ xs.getD (k - 1) 0 ∧ (k + 1 < xs.length → 1 ≤ xs.getD k 0) → Hid (∀ j, j < k + 1 → j + 1 < xs.length → 1 ≤ xs.getD j 0 ∧ (0 < j → xs.getD j 0 ≤ xs.getD (j - 1) 0)) := by
        intro g j hj hjl
        by_cases e : j = k
        · subst e; exact ⟨g.2 hjl, fun _ => g.1⟩
        · exact H.out j (by omega) hjl
      have HS' := Lib.hid HS
      clear NG NG2 HS
      generalize xs.getD k 0 = x at *
      generalize xs.getD (k - 1) 0 = y at *
      have hki : (1 : Int) ≤ (k : Int) := by omega
      have hki0 : (0 : Int) ≤ (k : Int) - 1 := by omega
      have hki2 : (k : Int) < (xs.length : Int) := by omega
      by_cases c1 : y < x
      · have HN := Lib.hid (NG'.out c1)
        have d1 : decide (y < x) = true := by simpa using c1
        go_wp2
        go_quiet (fail)
        go_wp2
        go_ret
        exact ⟨Base.ret_bool HN.out.symm, by first | exact below_drewN ((Below.refl _ _).alloc (by omega) _) _ | exact below_drewN (below_drewN ((Below.refl _ _).alloc (by omega) _) _) _⟩
      · have d1 : decide (y < x) = false := by simp; omega
        by_cases c2 : k + 1 < xs.length
        · have c2' : (k : Int) < (xs.length : Int) - 1 := by omega
          have d2 : decide ((k : Int) < (xs.length : Int) - 1) = true := by simpa using c2'
          by_cases c3 : x < 1
          · have HN := Lib.hid (NG2'.out c2 c3)
            clear c2
            go_wp2
            go_quiet (fail)
            go_wp2
            go_ret
            exact ⟨Base.ret_bool HN.out.symm, by first | exact below_drewN ((Below.refl _ _).alloc (by omega) _) _ | exact below_drewN (below_drewN ((Below.refl _ _).alloc (by omega) _) _) _⟩
          · have hs := Lib.hid (HS'.out ⟨by omega, fun _ => by omega⟩)
            clear c2
            go_wp2
            go_quiet (fail)
            go_wp2
            go_roundw
            case rel => exact ⟨k + 1, _, by omega, by omega, by go_num, hs.out, by first | rfl | exact World.drewN_drewN ..⟩
            case measure => simp [intOf]; omega
        · have c2' : (xs.length : Int) - 1 ≤ (k : Int) := by omega
          have hs := Lib.hid (HS'.out ⟨by omega, fun h => absurd h c2⟩)
          have d2 : decide ((k : Int) < (xs.length : Int) - 1) = false := by simp; omega
          clear c2
          go_wp2
          go_quiet (fail)
          go_wp2
          go_roundw
          case rel => exact ⟨k + 1, _, by omega, by omega, by go_num, hs.out, by first | rfl | exact World.drewN_drewN ..⟩
          case measure => simp [intOf]; omega
    · have HY := Lib.hid (ltB_yes HH.out (fun i hi => H.out i (by omega) hi))
      have hge : (xs.length : Int) ≤ (k : Int) := by omega
      go_wp2
      go_ret
      exact ⟨Base.ret_bool HY.out.symm, below_drewN ((Below.refl _ _).alloc (by omega) _) _⟩

end Go.Proofs.YtmngljpncglchaaDoor.LifeTables
