/-
  Contracts of IsClass of both packages, and of the tests whether a list holds a number.
  Conditions: the slices read as lists (Mem.Rd).
-/
import Derived.Test.YtenaeehefamdmaaLists
namespace Go.Proofs.Ytenaeehefamdmaa.IsClasses
open Go.RowKit Mem
set_option linter.unusedVariables false

/-- The list holds a number. -/
def has (xs : List Int) (x : Int) : Bool := xs.any fun y => decide (y = x)
theorem has_yes {xs : List Int} {x : Int} (k : Nat) (hk : k < xs.length) (h : xs.getD k 0 = x) : has xs x = true := by
  simp only [has, List.any_eq_true, decide_eq_true_eq]; exact ⟨_, getD_mem hk, h⟩
theorem has_no {xs : List Int} {x : Int} (h : ∀ k, k < xs.length → xs.getD k 0 ≠ x) : has xs x = false := by
  cases e : has xs x with
  | false => rfl
  | true =>
    simp only [has, List.any_eq_true, decide_eq_true_eq] at e
    obtain ⟨y, hy, rfl⟩ := e
    obtain ⟨i, hi, rfl⟩ := List.getElem_of_mem hy
    exact absurd (getD_lt hi) (h i hi)
theorem has_get {xs : List Int} {x : Int} (h : has xs x = true) : ∃ k, k < xs.length ∧ xs.getD k 0 = x := by
  simp only [has, List.any_eq_true, decide_eq_true_eq] at h
  obtain ⟨y, hy, rfl⟩ := h
  obtain ⟨i, hi, rfl⟩ := List.getElem_of_mem hy
  exact ⟨i, hi, getD_lt hi⟩

theorem l01Has_any (v : Value) (xs : List Int) (x : Int) (w : World) (h : Rd w v xs) :
    Calls Try.prog 42 #[v, .int .i64 x] w fun e w' => e = .returned (.bool (has xs x)) ∧ ∃ q, w' = w.drewN q := by
  rcases h with ⟨rfl, rfl⟩ | ⟨b, off, cap, rfl, hn, hl, hc, hbl, hx⟩
  · go_enter Try.func42, Try.ntmps42
    go_wp2
    refine wp_loop_rounds 1 ?_; rw [rounds_succ]
    go_wp2
    go_ret
    exact ⟨Base.ret_bool (Eq.symm (by simp [has])), 0, rfl⟩
  · have HX := Lib.hid hx
    clear hx
    go_enter Try.func42, Try.ntmps42
    go_wp2
    go_loopw [5] (fun i wr => ∃ (k q : Nat), k ≤ xs.length ∧ i = .int .i64 k ∧ Hid (∀ j, j < k → xs.getD j 0 ≠ x) ∧ wr = w.drewN q) (fun i _ => xs.length - (intOf i).toNat)
    case atStart => exact ⟨0, 0, by omega, rfl, (fun j hj => by omega), rfl⟩
    case round =>
      obtain ⟨k, q, hk, rfl, H, rfl⟩ := hrel
      by_cases hlt : k < xs.length
      · have hc1 : (w.drewN q).cell? ⟨b, off + k, none⟩ = some (.int .i64 (xs.getD k 0)) := HX.out k hlt
        have hc3 : w.cell? ⟨b, off + k, none⟩ = some (.int .i64 (xs.getD k 0)) := HX.out k hlt
        have HS : xs.getD k 0 ≠ x → Hid (∀ j, j < k + 1 → xs.getD j 0 ≠ x) := by
          intro g j hj
          by_cases e : j = k
          · subst e; exact g
          · exact H.out j (by omega)
        have HY : xs.getD k 0 = x → Hid (has xs x = true) := fun h => has_yes k hlt h
        have HS' := Lib.hid HS
        have HY' := Lib.hid HY
        clear HS HY
        generalize xs.getD k 0 = y at *
        by_cases hg : y = x
        · have hy := Lib.hid (HY'.out hg)
          subst hg
          go_wp2
          go_ret
          exact ⟨Base.ret_bool (by rw [hy.out]), _, rfl⟩
        · have hs := Lib.hid (HS'.out hg)
          have hg' : x < y ∨ y < x := by omega
          clear hg
          go_wp2
          go_roundw
          case rel => exact ⟨k + 1, _, by omega, by go_num, hs.out, by first | rfl | exact World.drewN_drewN ..⟩
          case measure => simp [intOf]; omega
      · obtain rfl : k = xs.length := by omega
        go_wp2
        go_ret
        exact ⟨Base.ret_bool (Eq.symm (has_no H.out)), _, rfl⟩

def Found (b : Bool) (w : World) (e : Ending) (w' : World) : Prop := (∃ r : Int, e = .returned (.int .i64 r) ∧ (b = false → r = -1) ∧ (b = true → 0 ≤ r)) ∧ ∃ q, w' = w.drewN q

theorem index_found (v : Value) (xs : List Int) (x : Int) (w : World) (h : Rd w v xs) :
    Calls Try.prog 56 #[v, .int .i64 x] w (Found (has xs x) w) := by
  rcases h with ⟨rfl, rfl⟩ | ⟨b, off, cap, rfl, hn, hl, hc, hbl, hx⟩
  · go_enter Try.func56, Try.ntmps56
    go_wp2
    refine wp_loop_rounds 1 ?_; rw [rounds_succ]
    go_wp2
    go_ret
    exact ⟨⟨_, rfl, (fun _ => rfl), (fun h => by rw [show has _ x = false from by simp [has]] at h; cases h)⟩, 0, rfl⟩
  · have HX := Lib.hid hx
    clear hx
    go_enter Try.func56, Try.ntmps56
    go_wp2
    go_loopw [8] (fun i wr => ∃ (k q : Nat), k ≤ xs.length ∧ i = .int .i64 k ∧ Hid (∀ j, j < k → xs.getD j 0 ≠ x) ∧ wr = w.drewN q) (fun i _ => xs.length - (intOf i).toNat)
    case atStart => exact ⟨0, 0, by omega, rfl, (fun j hj => by omega), rfl⟩
    case round =>
      obtain ⟨k, q, hk, rfl, H, rfl⟩ := hrel
      by_cases hlt : k < xs.length
      · have hc1 : (w.drewN q).cell? ⟨b, off + k, none⟩ = some (.int .i64 (xs.getD k 0)) := HX.out k hlt
        have hc3 : w.cell? ⟨b, off + k, none⟩ = some (.int .i64 (xs.getD k 0)) := HX.out k hlt
        have HS : xs.getD k 0 ≠ x → Hid (∀ j, j < k + 1 → xs.getD j 0 ≠ x) := by
          intro g j hj
          by_cases e : j = k
          · subst e; exact g
          · exact H.out j (by omega)
        have HY : xs.getD k 0 = x → Hid (has xs x = true) := fun h => has_yes k hlt h
        have HS' := Lib.hid HS
        have HY' := Lib.hid HY
        clear HS HY
        generalize xs.getD k 0 = y at *
        by_cases hg : y = x
        · have hy := Lib.hid (HY'.out hg)
          subst hg
          go_wp2
          go_ret
          exact ⟨⟨_, rfl, (fun h => by rw [hy.out] at h; cases h), (fun _ => by omega)⟩, _, rfl⟩
        · have hs := Lib.hid (HS'.out hg)
          have hg' : x < y ∨ y < x := by omega
          clear hg
          go_wp2
          go_roundw
          case rel => exact ⟨k + 1, _, by omega, by go_num, hs.out, by first | rfl | exact World.drewN_drewN ..⟩
          case measure => simp [intOf]; omega
      · obtain rfl : k = xs.length := by omega
        go_wp2
        go_ret
        exact ⟨⟨_, rfl, (fun _ => rfl), (fun h => by rw [show has _ x = false from has_no H.out] at h; cases h)⟩, _, rfl⟩

theorem contains_any (v : Value) (xs : List Int) (x : Int) (w : World) (h : Rd w v xs) :
    Calls Try.prog 53 #[v, .int .i64 x] w fun e w' => e = .returned (.bool (has xs x)) ∧ ∃ q, w' = w.drewN q := by
  have IF := Lib.hid (index_found v xs x w h)
  clear h
  go_enter Try.func53, Try.ntmps53
  cases hw : has xs x with
  | false =>
    have HW := Lib.hid hw
    clear hw
    go_wp2_with (go_at_call 56; refine IF.out.mono ?_; rintro e w' ⟨⟨r, rfl, hr1, hr2⟩, q, rfl⟩; obtain rfl := hr1 HW.out; clear hr1 hr2)
    go_ret
    exact ⟨rfl, _, rfl⟩
  | true =>
    have HW := Lib.hid hw
    clear hw
    go_wp2_with (go_at_call 56; refine IF.out.mono ?_; rintro e w' ⟨⟨r, rfl, hr1, hr2⟩, q, rfl⟩; have hr3 := hr2 HW.out; clear hr1 hr2)
    go_ret
    exact ⟨rfl, _, rfl⟩

/-- The numbers grow strictly. -/
def incr (xs : List Int) : Prop := ∀ i, 1 ≤ i → i < xs.length → xs.getD (i - 1) 0 < xs.getD i 0
def Cls (sh de : List Int) (ch : Int) : Prop := (1 ≤ sh.length ∧ sh.length ≤ 60) ∧ within 1 1000 sh = true ∧ within 0 ((sh.length : Int) - 1) de = true ∧ (0 ≤ ch ∧ ch ≤ 1000000000000) ∧ incr de
noncomputable def clB (sh de : List Int) (ch : Int) : Bool := @decide (Cls sh de ch) (Classical.propDecidable _)
theorem clB_yes {sh de : List Int} {ch : Int} (h : Cls sh de ch) : clB sh de ch = true := @decide_eq_true _ (Classical.propDecidable _) h
theorem clB_no {sh de : List Int} {ch : Int} (h : ¬ Cls sh de ch) : clB sh de ch = false := @decide_eq_false _ (Classical.propDecidable _) h
theorem clB_of {sh de : List Int} {ch : Int} (h : clB sh de ch = true) : Cls sh de ch := @of_decide_eq_true _ (Classical.propDecidable _) h
/-- Strictly growing numbers of at least 0 are no less than their places. -/
theorem incr_ge {de : List Int} {n : Int} (h : incr de) (g : within 0 n de = true) (i : Nat) (hi : i < de.length) : (i : Int) ≤ de.getD i 0 := by
  induction i with
  | zero => exact (within_get g 0 hi).1
  | succ i ih => have a := ih (by omega); have b := h (i + 1) (by omega) hi; simp only [Nat.add_sub_cancel] at b; omega
theorem incr_len {de : List Int} {n : Nat} (h : incr de) (g : within 0 ((n : Int) - 1) de = true) : de.length ≤ n := by
  by_cases e : de.length = 0
  · omega
  · have a := incr_ge h g (de.length - 1) (by omega)
    have b := (within_get g (de.length - 1) (by omega)).2
    omega

set_option maxHeartbeats 2000000 in
theorem implIsClass_any (ch : Int) (v1 v2 : Value) (sh de : List Int) (w : World) (h1 : Rd w v1 sh) (h2 : Rd w v2 de) :
    Calls Try.prog 27 #[.agg #[v1, v2, .int .i64 ch]] w fun e w' => e = .returned (.bool (clB sh de ch)) ∧ Below w.heap.size w w' := by
  have H1 := Lib.hid (fun o => h1.below (b0 w o))
  obtain ⟨a1, c1, rfl, hn1⟩ := rd_shape h1
  have H2 := Lib.hid h2
  by_cases c1a : 1 ≤ sh.length ∧ sh.length ≤ 60
  case neg =>
    obtain ⟨a2, c2, rfl, hn2⟩ := rd_shape h2
    have HN := Lib.hid (clB_no (sh := sh) (de := de) (ch := ch) (fun q => c1a q.1))
    have g : (sh.length : Int) < 1 ∨ 60 < (sh.length : Int) := by omega
    clear h1 h2 c1a
    go_enter Try.func27, Try.ntmps27
    go_wp2_with (first
      | (go_at_call 25; refine (Base.l01In_yes _ _ _ _ (by omega) (by omega)).mono ?_; rintro e w' ⟨rfl, rfl⟩)
      | (go_at_call 25; refine (Base.l01In_no _ _ _ _ (by omega)).mono ?_; rintro e w' ⟨rfl, rfl⟩)
      | (go_at_call 33; refine (Base.inRange_yes _ _ _ _ (by omega) (by omega)).mono ?_; rintro e w' ⟨rfl, rfl⟩)
      | (go_at_call 33; refine (Base.inRange_no _ _ _ _ (by omega)).mono ?_; rintro e w' ⟨rfl, rfl⟩)
      | (go_at_call 43; refine (Lists.length_any _ _ _ _ (by omega)).mono ?_; rintro e w' ⟨rfl, rfl⟩)
     )
    go_ret
    exact ⟨Base.ret_bool HN.out.symm, b0 _ _⟩
  obtain ⟨n1, n2⟩ := c1a
  cases hw1 : within 1 1000 sh with
  | false =>
    obtain ⟨a2, c2, rfl, hn2⟩ := rd_shape h2
    have HN := Lib.hid (clB_no (sh := sh) (de := de) (ch := ch) (fun q => by rw [q.2.1] at hw1; cases hw1))
    have HW := Lib.hid hw1
    clear h1 h2 hw1
    go_enter Try.func27, Try.ntmps27
    go_wp2_with (first
      | (go_at_call 34; refine (Lists.allIn_any _ sh _ _ _ (H1.out _)).mono ?_; rintro e w1 ⟨rfl, hb1⟩; rw [HW.out])
      | (go_at_call 25; refine (Base.l01In_yes _ _ _ _ (by omega) (by omega)).mono ?_; rintro e w' ⟨rfl, rfl⟩)
      | (go_at_call 25; refine (Base.l01In_no _ _ _ _ (by omega)).mono ?_; rintro e w' ⟨rfl, rfl⟩)
      | (go_at_call 33; refine (Base.inRange_yes _ _ _ _ (by omega) (by omega)).mono ?_; rintro e w' ⟨rfl, rfl⟩)
      | (go_at_call 33; refine (Base.inRange_no _ _ _ _ (by omega)).mono ?_; rintro e w' ⟨rfl, rfl⟩)
      | (go_at_call 43; refine (Lists.length_any _ _ _ _ (by omega)).mono ?_; rintro e w' ⟨rfl, rfl⟩)
     )
    go_ret
    exact ⟨Base.ret_bool HN.out.symm, bl (b0 _ _) hb1⟩
  | true =>
  have HW1 := Lib.hid hw1
  cases hw2 : within 0 ((sh.length : Int) - 1) de with
  | false =>
    obtain ⟨a2, c2, rfl, hn2⟩ := rd_shape h2
    have HX := Lib.hid (box3_new w (.slice a1 sh.length c1) (.slice a2 de.length c2) (.int .i64 ch))
    have HN := Lib.hid (clB_no (sh := sh) (de := de) (ch := ch) (fun q => by rw [q.2.2.1] at hw2; cases hw2))
    have HW := Lib.hid hw2
    clear h1 h2 hw1 hw2
    go_enter Try.func27, Try.ntmps27
    go_wp2_with (first
      | (go_at_call 25; refine (Base.l01In_yes _ _ _ _ (by omega) (by omega)).mono ?_; rintro e w' ⟨rfl, rfl⟩)
      | (go_at_call 25; refine (Base.l01In_no _ _ _ _ (by omega)).mono ?_; rintro e w' ⟨rfl, rfl⟩)
      | (go_at_call 33; refine (Base.inRange_yes _ _ _ _ (by omega) (by omega)).mono ?_; rintro e w' ⟨rfl, rfl⟩)
      | (go_at_call 33; refine (Base.inRange_no _ _ _ _ (by omega)).mono ?_; rintro e w' ⟨rfl, rfl⟩)
      | (go_at_call 43; refine (Lists.length_any _ _ _ _ (by omega)).mono ?_; rintro e w' ⟨rfl, rfl⟩)
     )
    refine (Lists.allIn_any _ sh _ _ _ (H1.out _)).mono ?_; rintro e w1 ⟨rfl, hb1⟩; rw [HW1.out]
    obtain ⟨x1, x2, x3, x4⟩ := (HX.out _).below hb1
    have HB := Lib.hid (bl (b0 _ _) hb1)
    clear hb1
    go_wp2_with fail
    refine (Lists.allIn_any _ de _ _ _ (H2.out.below HB.out)).mono ?_; rintro e w2 ⟨rfl, hb2⟩; rw [HW.out]
    go_wp2_with (first
      | (go_at_call 25; refine (Base.l01In_yes _ _ _ _ (by omega) (by omega)).mono ?_; rintro e w' ⟨rfl, rfl⟩)
      | (go_at_call 25; refine (Base.l01In_no _ _ _ _ (by omega)).mono ?_; rintro e w' ⟨rfl, rfl⟩)
      | (go_at_call 33; refine (Base.inRange_yes _ _ _ _ (by omega) (by omega)).mono ?_; rintro e w' ⟨rfl, rfl⟩)
      | (go_at_call 33; refine (Base.inRange_no _ _ _ _ (by omega)).mono ?_; rintro e w' ⟨rfl, rfl⟩)
      | (go_at_call 43; refine (Lists.length_any _ _ _ _ (by omega)).mono ?_; rintro e w' ⟨rfl, rfl⟩)
     )
    go_ret
    exact ⟨Base.ret_bool HN.out.symm, bl HB.out hb2⟩
  | true =>
  have HW2 := Lib.hid hw2
  by_cases c3 : 0 ≤ ch ∧ ch ≤ 1000000000000
  case neg =>
    obtain ⟨a2, c2, rfl, hn2⟩ := rd_shape h2
    have HX := Lib.hid (box3_new w (.slice a1 sh.length c1) (.slice a2 de.length c2) (.int .i64 ch))
    have HN := Lib.hid (clB_no (sh := sh) (de := de) (ch := ch) (fun q => c3 q.2.2.2.1))
    have g : ch < 0 ∨ 1000000000000 < ch := by omega
    clear h1 h2 hw1 hw2 c3
    go_enter Try.func27, Try.ntmps27
    go_wp2_with (first
      | (go_at_call 25; refine (Base.l01In_yes _ _ _ _ (by omega) (by omega)).mono ?_; rintro e w' ⟨rfl, rfl⟩)
      | (go_at_call 25; refine (Base.l01In_no _ _ _ _ (by omega)).mono ?_; rintro e w' ⟨rfl, rfl⟩)
      | (go_at_call 33; refine (Base.inRange_yes _ _ _ _ (by omega) (by omega)).mono ?_; rintro e w' ⟨rfl, rfl⟩)
      | (go_at_call 33; refine (Base.inRange_no _ _ _ _ (by omega)).mono ?_; rintro e w' ⟨rfl, rfl⟩)
      | (go_at_call 43; refine (Lists.length_any _ _ _ _ (by omega)).mono ?_; rintro e w' ⟨rfl, rfl⟩)
     )
    refine (Lists.allIn_any _ sh _ _ _ (H1.out _)).mono ?_; rintro e w1 ⟨rfl, hb1⟩; rw [HW1.out]
    have X := (HX.out _).below hb1
    obtain ⟨x1, x2, x3, x4⟩ := X
    have HB := Lib.hid (bl (b0 _ _) hb1)
    clear hb1
    go_wp2_with fail
    refine (Lists.allIn_any _ de _ _ _ (H2.out.below HB.out)).mono ?_; rintro e w2 ⟨rfl, hb2⟩; rw [HW2.out]
    obtain ⟨y1, y2, y3, y4⟩ := Box3.below ⟨x1, x2, x3, x4⟩ hb2
    go_wp2_with (first
      | (go_at_call 25; refine (Base.l01In_yes _ _ _ _ (by omega) (by omega)).mono ?_; rintro e w' ⟨rfl, rfl⟩)
      | (go_at_call 25; refine (Base.l01In_no _ _ _ _ (by omega)).mono ?_; rintro e w' ⟨rfl, rfl⟩)
      | (go_at_call 33; refine (Base.inRange_yes _ _ _ _ (by omega) (by omega)).mono ?_; rintro e w' ⟨rfl, rfl⟩)
      | (go_at_call 33; refine (Base.inRange_no _ _ _ _ (by omega)).mono ?_; rintro e w' ⟨rfl, rfl⟩)
      | (go_at_call 43; refine (Lists.length_any _ _ _ _ (by omega)).mono ?_; rintro e w' ⟨rfl, rfl⟩)
     )
    go_ret
    exact ⟨Base.ret_bool HN.out.symm, bl HB.out hb2⟩
  obtain ⟨g1, g2⟩ := c3
  have HIN : Hid (incr de → clB sh de ch = true) := fun q => clB_yes ⟨⟨n1, n2⟩, hw1, hw2, ⟨g1, g2⟩, q⟩
  have HNO : Hid (¬ incr de → clB sh de ch = false) := fun q => clB_no (fun c => q c.2.2.2.2)
  clear hw1 hw2
  rcases h2 with ⟨rfl, rfl⟩ | ⟨b, off, cap, rfl, hn, hl, hm, hbl, hx⟩
  · have HX := Lib.hid (box3_new w (.slice a1 sh.length c1) (.slice none 0 0) (.int .i64 ch))
    have HY := Lib.hid (HIN.out (fun i _ h => by simp at h))
    clear h1
    go_enter Try.func27, Try.ntmps27
    go_wp2_with (first
      | (go_at_call 25; refine (Base.l01In_yes _ _ _ _ (by omega) (by omega)).mono ?_; rintro e w' ⟨rfl, rfl⟩)
      | (go_at_call 25; refine (Base.l01In_no _ _ _ _ (by omega)).mono ?_; rintro e w' ⟨rfl, rfl⟩)
      | (go_at_call 33; refine (Base.inRange_yes _ _ _ _ (by omega) (by omega)).mono ?_; rintro e w' ⟨rfl, rfl⟩)
      | (go_at_call 33; refine (Base.inRange_no _ _ _ _ (by omega)).mono ?_; rintro e w' ⟨rfl, rfl⟩)
      | (go_at_call 43; refine (Lists.length_any _ _ _ _ (by omega)).mono ?_; rintro e w' ⟨rfl, rfl⟩)
     )
    refine (Lists.allIn_any _ sh _ _ _ (H1.out _)).mono ?_; rintro e w1 ⟨rfl, hb1⟩; rw [HW1.out]
    obtain ⟨x1, x2, x3, x4⟩ := (HX.out _).below hb1
    have HB := Lib.hid (bl (b0 _ _) hb1)
    clear hb1
    go_wp2_with fail
    refine (Lists.allIn_any _ _ _ _ _ (H2.out.below HB.out)).mono ?_; rintro e w2 ⟨rfl, hb2⟩; rw [HW2.out]
    obtain ⟨y1, y2, y3, y4⟩ := Box3.below ⟨x1, x2, x3, x4⟩ hb2
    go_wp2_with (first
      | (go_at_call 25; refine (Base.l01In_yes _ _ _ _ (by omega) (by omega)).mono ?_; rintro e w' ⟨rfl, rfl⟩)
      | (go_at_call 25; refine (Base.l01In_no _ _ _ _ (by omega)).mono ?_; rintro e w' ⟨rfl, rfl⟩)
      | (go_at_call 33; refine (Base.inRange_yes _ _ _ _ (by omega) (by omega)).mono ?_; rintro e w' ⟨rfl, rfl⟩)
      | (go_at_call 33; refine (Base.inRange_no _ _ _ _ (by omega)).mono ?_; rintro e w' ⟨rfl, rfl⟩)
      | (go_at_call 43; refine (Lists.length_any _ _ _ _ (by omega)).mono ?_; rintro e w' ⟨rfl, rfl⟩)
     )
    refine wp_loop_rounds 1 ?_; rw [rounds_succ]
    go_wp2
    go_ret
    exact ⟨Base.ret_bool HY.out.symm, bl HB.out hb2⟩
  · have HX := Lib.hid (box3_new w (.slice a1 sh.length c1) (.slice (some ⟨b, off, none⟩) de.length cap) (.int .i64 ch))
    have HD := Lib.hid hx
    clear h1 hx
    go_enter Try.func27, Try.ntmps27
    go_wp2_with (first
      | (go_at_call 25; refine (Base.l01In_yes _ _ _ _ (by omega) (by omega)).mono ?_; rintro e w' ⟨rfl, rfl⟩)
      | (go_at_call 25; refine (Base.l01In_no _ _ _ _ (by omega)).mono ?_; rintro e w' ⟨rfl, rfl⟩)
      | (go_at_call 33; refine (Base.inRange_yes _ _ _ _ (by omega) (by omega)).mono ?_; rintro e w' ⟨rfl, rfl⟩)
      | (go_at_call 33; refine (Base.inRange_no _ _ _ _ (by omega)).mono ?_; rintro e w' ⟨rfl, rfl⟩)
      | (go_at_call 43; refine (Lists.length_any _ _ _ _ (by omega)).mono ?_; rintro e w' ⟨rfl, rfl⟩)
     )
    refine (Lists.allIn_any _ sh _ _ _ (H1.out _)).mono ?_; rintro e w1 ⟨rfl, hb1⟩; rw [HW1.out]
    obtain ⟨x1, x2, x3, x4⟩ := (HX.out _).below hb1
    have HB := Lib.hid (bl (b0 _ _) hb1)
    clear hb1
    go_wp2_with fail
    refine (Lists.allIn_any _ _ _ _ _ (H2.out.below HB.out)).mono ?_; rintro e w2 ⟨rfl, hb2⟩; rw [HW2.out]
    obtain ⟨y1, y2, y3, y4⟩ := Box3.below ⟨x1, x2, x3, x4⟩ hb2
    have HBB := Lib.hid (bl HB.out hb2)
    have hcell : ∀ i, i < de.length → w2.cell? ⟨b, off + i, none⟩ = some (.int .i64 (de.getD i 0)) := fun i hi => (HBB.out.cell (p := ⟨b, off + i, none⟩) hbl).trans (HD.out i hi)
    have HC := Lib.hid hcell
    clear hb2 hcell
    go_wp2_with (first
      | (go_at_call 25; refine (Base.l01In_yes _ _ _ _ (by omega) (by omega)).mono ?_; rintro e w' ⟨rfl, rfl⟩)
      | (go_at_call 25; refine (Base.l01In_no _ _ _ _ (by omega)).mono ?_; rintro e w' ⟨rfl, rfl⟩)
      | (go_at_call 33; refine (Base.inRange_yes _ _ _ _ (by omega) (by omega)).mono ?_; rintro e w' ⟨rfl, rfl⟩)
      | (go_at_call 33; refine (Base.inRange_no _ _ _ _ (by omega)).mono ?_; rintro e w' ⟨rfl, rfl⟩)
      | (go_at_call 43; refine (Lists.length_any _ _ _ _ (by omega)).mono ?_; rintro e w' ⟨rfl, rfl⟩)
     )
    go_loopw [4] (fun i wr => ∃ (k q : Nat), 1 ≤ k ∧ (k ≤ de.length ∨ k = 1) ∧ i = .int .i64 k ∧ Hid (∀ j, 1 ≤ j → j < k → j < de.length → de.getD (j - 1) 0 < de.getD j 0) ∧ wr = w2.drewN q) (fun i _ => de.length - (intOf i).toNat)
    case atStart => exact ⟨1, 0, by omega, .inr rfl, rfl, (fun j hj hj2 _ => by omega), rfl⟩
    case round =>
      obtain ⟨k, q, hk1, hk, rfl, H, rfl⟩ := hrel
      by_cases hlt : k < de.length
      · have hck : w2.cell? ⟨b, off + k, none⟩ = some (.int .i64 (de.getD k 0)) := HC.out k hlt
        have hcp : w2.cell? ⟨b, off + (k - 1), none⟩ = some (.int .i64 (de.getD (k - 1) 0)) := HC.out (k - 1) (by omega)
        have HS : de.getD (k - 1) 0 < de.getD k 0 → Hid (∀ j, 1 ≤ j → j < k + 1 → j < de.length → de.getD (j - 1) 0 < de.getD j 0) := by
          intro g j hj hj2 hj3
          by_cases e : j = k
          · subst e; exact g
          · exact H.out j hj (by omega) hj3
        have HY : ¬ de.getD (k - 1) 0 < de.getD k 0 → Hid (clB sh de ch = false) := fun g => HNO.out (fun q => g (q k hk1 hlt))
        have HS' := Lib.hid HS
        have HY' := Lib.hid HY
        clear HS HY
        generalize de.getD k 0 = x at *
        generalize de.getD (k - 1) 0 = y at *
        have hki : (1 : Int) ≤ (k : Int) := by omega
        have hki0 : (0 : Int) ≤ (k : Int) - 1 := by omega
        have hki2 : (k : Int) < (de.length : Int) := by omega
        by_cases c : y < x
        · have hs := Lib.hid (HS'.out c)
          clear hk
          go_wp2
          go_quiet (fail)
          go_wp2
          go_roundw
          case rel => exact ⟨k + 1, _, by omega, .inl (by omega), by go_num, hs.out, by first | rfl | exact World.drewN_drewN ..⟩
          case measure => simp [intOf]; omega
        · have hy := Lib.hid (HY'.out c)
          have c' : x ≤ y := by omega
          clear hk c
          go_wp2
          go_quiet (fail)
          go_wp2
          go_ret
          exact ⟨Base.ret_bool hy.out.symm, by first | exact below_drewN HBB.out _ | exact below_drewN (below_drewN HBB.out _) _⟩
      · have hge : (de.length : Int) ≤ (k : Int) := by omega
        have HYY := Lib.hid (HIN.out (fun i hi hi2 => H.out i hi (by omega) hi2))
        clear hk
        go_wp2
        go_ret
        exact ⟨Base.ret_bool HYY.out.symm, below_drewN HBB.out _⟩

set_option maxHeartbeats 2000000 in
theorem specIsClass_any (ch : Int) (v1 v2 : Value) (sh de : List Int) (w : World) (h1 : Rd w v1 sh) (h2 : Rd w v2 de) :
    Calls Try.prog 24 #[.agg #[v1, v2, .int .i64 ch]] w fun e w' => e = .returned (.bool (clB sh de ch)) ∧ Below w.heap.size w w' := by
  have H1 := Lib.hid (fun o => h1.below (b0 w o))
  obtain ⟨a1, c1, rfl, hn1⟩ := rd_shape h1
  have H2 := Lib.hid h2
  by_cases c0 : 1 ≤ sh.length
  case neg =>
    obtain ⟨a2, c2, rfl, hn2⟩ := rd_shape h2
    have HN := Lib.hid (clB_no (sh := sh) (de := de) (ch := ch) (fun q => c0 q.1.1))
    have g : (sh.length : Int) < 1 := by omega
    clear h1 h2 c0
    go_enter Try.func24, Try.ntmps24
    go_wp2_with (first
      | (go_at_call 25; refine (Base.l01In_yes _ _ _ _ (by omega) (by omega)).mono ?_; rintro e w' ⟨rfl, rfl⟩)
      | (go_at_call 25; refine (Base.l01In_no _ _ _ _ (by omega)).mono ?_; rintro e w' ⟨rfl, rfl⟩)
      | (go_at_call 33; refine (Base.inRange_yes _ _ _ _ (by omega) (by omega)).mono ?_; rintro e w' ⟨rfl, rfl⟩)
      | (go_at_call 33; refine (Base.inRange_no _ _ _ _ (by omega)).mono ?_; rintro e w' ⟨rfl, rfl⟩)
     )
    go_ret
    exact ⟨Base.ret_bool HN.out.symm, b0 _ _⟩
  have hd0 : decide ((sh.length : Int) < 1) = false := by simp; omega
  by_cases c1a : within 1 1000 sh = true ∧ sh.length ≤ 60
  case neg =>
    obtain ⟨a2, c2, rfl, hn2⟩ := rd_shape h2
    have HN := Lib.hid (clB_no (sh := sh) (de := de) (ch := ch) (fun q => c1a ⟨q.2.1, q.1.2⟩))
    have hno : within 1 1000 sh = false ∨ (60 : Int) < (sh.length : Int) := by
      cases hw : within 1 1000 sh with
      | false => exact .inl rfl
      | true => exact .inr (by have := mt (fun h => And.intro hw h) c1a; omega)
    have HO := Lib.hid hno
    clear h1 h2 c1a hno
    go_enter Try.func24, Try.ntmps24
    go_wp2_with fail
    refine (Lists.l01Within_no _ sh _ _ _ _ (H1.out _) HO.out).mono ?_; rintro e w1 ⟨rfl, hb1⟩
    go_wp2
    go_ret
    exact ⟨Base.ret_bool HN.out.symm, bl (b0 _ _) hb1⟩
  obtain ⟨hw1, n2⟩ := c1a
  have HW1 := Lib.hid hw1
  by_cases c3 : 0 ≤ ch ∧ ch ≤ 1000000000000
  case neg =>
    obtain ⟨a2, c2, rfl, hn2⟩ := rd_shape h2
    have HX := Lib.hid (box3_new w (.slice a1 sh.length c1) (.slice a2 de.length c2) (.int .i64 ch))
    have HN := Lib.hid (clB_no (sh := sh) (de := de) (ch := ch) (fun q => c3 q.2.2.2.1))
    have g : ch < 0 ∨ 1000000000000 < ch := by omega
    clear h1 h2 hw1 c3
    go_enter Try.func24, Try.ntmps24
    go_wp2_with fail
    refine (Lists.l01Within_yes _ sh _ _ _ _ (H1.out _) HW1.out (by omega)).mono ?_; rintro e w1 ⟨rfl, hb1⟩
    obtain ⟨x1, x2, x3, x4⟩ := (HX.out _).below hb1
    go_wp2_with (first
      | (go_at_call 25; refine (Base.l01In_yes _ _ _ _ (by omega) (by omega)).mono ?_; rintro e w' ⟨rfl, rfl⟩)
      | (go_at_call 25; refine (Base.l01In_no _ _ _ _ (by omega)).mono ?_; rintro e w' ⟨rfl, rfl⟩)
      | (go_at_call 33; refine (Base.inRange_yes _ _ _ _ (by omega) (by omega)).mono ?_; rintro e w' ⟨rfl, rfl⟩)
      | (go_at_call 33; refine (Base.inRange_no _ _ _ _ (by omega)).mono ?_; rintro e w' ⟨rfl, rfl⟩)
     )
    go_ret
    exact ⟨Base.ret_bool HN.out.symm, bl (b0 _ _) hb1⟩
  obtain ⟨g1, g2⟩ := c3
  by_cases c4 : within 0 ((sh.length : Int) - 1) de = true ∧ de.length ≤ sh.length
  case neg =>
    obtain ⟨a2, c2, rfl, hn2⟩ := rd_shape h2
    have HX := Lib.hid (box3_new w (.slice a1 sh.length c1) (.slice a2 de.length c2) (.int .i64 ch))
    have HN := Lib.hid (clB_no (sh := sh) (de := de) (ch := ch) (fun q => c4 ⟨q.2.2.1, incr_len q.2.2.2.2 q.2.2.1⟩))
    have hno : within 0 ((sh.length : Int) - 1) de = false ∨ (sh.length : Int) < (de.length : Int) := by
      cases hw : within 0 ((sh.length : Int) - 1) de with
      | false => exact .inl rfl
      | true => exact .inr (by have := mt (fun h => And.intro hw h) c4; omega)
    have HO := Lib.hid hno
    clear h1 h2 hw1 c4 hno
    go_enter Try.func24, Try.ntmps24
    go_wp2_with fail
    refine (Lists.l01Within_yes _ sh _ _ _ _ (H1.out _) HW1.out (by omega)).mono ?_; rintro e w1 ⟨rfl, hb1⟩
    obtain ⟨x1, x2, x3, x4⟩ := (HX.out _).below hb1
    have HB := Lib.hid (bl (b0 _ _) hb1)
    clear hb1
    go_wp2_with (first
      | (go_at_call 25; refine (Base.l01In_yes _ _ _ _ (by omega) (by omega)).mono ?_; rintro e w' ⟨rfl, rfl⟩)
      | (go_at_call 25; refine (Base.l01In_no _ _ _ _ (by omega)).mono ?_; rintro e w' ⟨rfl, rfl⟩)
      | (go_at_call 33; refine (Base.inRange_yes _ _ _ _ (by omega) (by omega)).mono ?_; rintro e w' ⟨rfl, rfl⟩)
      | (go_at_call 33; refine (Base.inRange_no _ _ _ _ (by omega)).mono ?_; rintro e w' ⟨rfl, rfl⟩)
     )
    refine (Lists.l01Within_no _ de _ _ _ _ (H2.out.below HB.out) HO.out).mono ?_; rintro e w2 ⟨rfl, hb2⟩
    go_wp2
    go_ret
    exact ⟨Base.ret_bool HN.out.symm, bl HB.out hb2⟩
  obtain ⟨hw2, hdl⟩ := c4
  have HW2 := Lib.hid hw2
  have HIN : Hid (incr de → clB sh de ch = true) := fun q => clB_yes ⟨⟨c0, n2⟩, hw1, hw2, ⟨g1, g2⟩, q⟩
  have HNO : Hid (¬ incr de → clB sh de ch = false) := fun q => clB_no (fun c => q c.2.2.2.2)
  clear hw1 hw2
  rcases h2 with ⟨rfl, rfl⟩ | ⟨b, off, cap, rfl, hn, hl, hm, hbl, hx⟩
  · have HX := Lib.hid (box3_new w (.slice a1 sh.length c1) (.slice none 0 0) (.int .i64 ch))
    have HY := Lib.hid (HIN.out (fun i _ h => by simp at h))
    clear h1
    go_enter Try.func24, Try.ntmps24
    go_wp2_with fail
    refine (Lists.l01Within_yes _ sh _ _ _ _ (H1.out _) HW1.out (by omega)).mono ?_; rintro e w1 ⟨rfl, hb1⟩
    obtain ⟨x1, x2, x3, x4⟩ := (HX.out _).below hb1
    have HB := Lib.hid (bl (b0 _ _) hb1)
    clear hb1
    go_wp2_with (first
      | (go_at_call 25; refine (Base.l01In_yes _ _ _ _ (by omega) (by omega)).mono ?_; rintro e w' ⟨rfl, rfl⟩)
      | (go_at_call 25; refine (Base.l01In_no _ _ _ _ (by omega)).mono ?_; rintro e w' ⟨rfl, rfl⟩)
      | (go_at_call 33; refine (Base.inRange_yes _ _ _ _ (by omega) (by omega)).mono ?_; rintro e w' ⟨rfl, rfl⟩)
      | (go_at_call 33; refine (Base.inRange_no _ _ _ _ (by omega)).mono ?_; rintro e w' ⟨rfl, rfl⟩)
     )
    refine (Lists.l01Within_yes _ _ _ _ _ _ (H2.out.below HB.out) HW2.out (by simp)).mono ?_; rintro e w2 ⟨rfl, hb2⟩
    obtain ⟨y1, y2, y3, y4⟩ := Box3.below ⟨x1, x2, x3, x4⟩ hb2
    go_wp2
    refine wp_loop_rounds 1 ?_; rw [rounds_succ]
    go_wp2
    go_ret
    exact ⟨Base.ret_bool HY.out.symm, bl HB.out hb2⟩
  · have HX := Lib.hid (box3_new w (.slice a1 sh.length c1) (.slice (some ⟨b, off, none⟩) de.length cap) (.int .i64 ch))
    have HD := Lib.hid hx
    clear h1 hx
    go_enter Try.func24, Try.ntmps24
    go_wp2_with fail
    refine (Lists.l01Within_yes _ sh _ _ _ _ (H1.out _) HW1.out (by omega)).mono ?_; rintro e w1 ⟨rfl, hb1⟩
    obtain ⟨x1, x2, x3, x4⟩ := (HX.out _).below hb1
    have HB := Lib.hid (bl (b0 _ _) hb1)
    clear hb1
    go_wp2_with (first
      | (go_at_call 25; refine (Base.l01In_yes _ _ _ _ (by omega) (by omega)).mono ?_; rintro e w' ⟨rfl, rfl⟩)
      | (go_at_call 25; refine (Base.l01In_no _ _ _ _ (by omega)).mono ?_; rintro e w' ⟨rfl, rfl⟩)
      | (go_at_call 33; refine (Base.inRange_yes _ _ _ _ (by omega) (by omega)).mono ?_; rintro e w' ⟨rfl, rfl⟩)
      | (go_at_call 33; refine (Base.inRange_no _ _ _ _ (by omega)).mono ?_; rintro e w' ⟨rfl, rfl⟩)
     )
    refine (Lists.l01Within_yes _ _ _ _ _ _ (H2.out.below HB.out) HW2.out (by omega)).mono ?_; rintro e w2 ⟨rfl, hb2⟩
    obtain ⟨y1, y2, y3, y4⟩ := Box3.below ⟨x1, x2, x3, x4⟩ hb2
    have HBB := Lib.hid (bl HB.out hb2)
    have hcell : ∀ i, i < de.length → w2.cell? ⟨b, off + i, none⟩ = some (.int .i64 (de.getD i 0)) := fun i hi => (HBB.out.cell (p := ⟨b, off + i, none⟩) hbl).trans (HD.out i hi)
    have HC := Lib.hid hcell
    clear hb2 hcell
    go_wp2
    go_loopw [4] (fun i wr => ∃ (k q : Nat), 1 ≤ k ∧ (k ≤ de.length ∨ k = 1) ∧ i = .int .i64 k ∧ Hid (∀ j, 1 ≤ j → j < k → j < de.length → de.getD (j - 1) 0 < de.getD j 0) ∧ wr = w2.drewN q) (fun i _ => de.length - (intOf i).toNat)
    case atStart => exact ⟨1, 0, by omega, .inr rfl, rfl, (fun j hj hj2 _ => by omega), rfl⟩
    case round =>
      obtain ⟨k, q, hk1, hk, rfl, H, rfl⟩ := hrel
      by_cases hlt : k < de.length
      · have hck : w2.cell? ⟨b, off + k, none⟩ = some (.int .i64 (de.getD k 0)) := HC.out k hlt
        have hcp : w2.cell? ⟨b, off + (k - 1), none⟩ = some (.int .i64 (de.getD (k - 1) 0)) := HC.out (k - 1) (by omega)
        have HS : de.getD (k - 1) 0 < de.getD k 0 → Hid (∀ j, 1 ≤ j → j < k + 1 → j < de.length → de.getD (j - 1) 0 < de.getD j 0) := by
          intro g j hj hj2 hj3
          by_cases e : j = k
          · subst e; exact g
          · exact H.out j hj (by omega) hj3
        have HY : ¬ de.getD (k - 1) 0 < de.getD k 0 → Hid (clB sh de ch = false) := fun g => HNO.out (fun q => g (q k hk1 hlt))
        have HS' := Lib.hid HS
        have HY' := Lib.hid HY
        clear HS HY
        generalize de.getD k 0 = x at *
        generalize de.getD (k - 1) 0 = y at *
        have hki : (1 : Int) ≤ (k : Int) := by omega
        have hki0 : (0 : Int) ≤ (k : Int) - 1 := by omega
        have hki2 : (k : Int) < (de.length : Int) := by omega
        by_cases c : y < x
        · have hs := Lib.hid (HS'.out c)
          clear hk
          go_wp2
          go_quiet (fail)
          go_wp2
          go_roundw
          case rel => exact ⟨k + 1, _, by omega, .inl (by omega), by go_num, hs.out, by first | rfl | exact World.drewN_drewN ..⟩
          case measure => simp [intOf]; omega
        · have hy := Lib.hid (HY'.out c)
          have c' : x ≤ y := by omega
          clear hk c
          go_wp2
          go_quiet (fail)
          go_wp2
          go_ret
          exact ⟨Base.ret_bool hy.out.symm, by first | exact below_drewN HBB.out _ | exact below_drewN (below_drewN HBB.out _) _⟩
      · have hge : (de.length : Int) ≤ (k : Int) := by omega
        have HYY := Lib.hid (HIN.out (fun i hi hi2 => H.out i hi (by omega) hi2))
        clear hk
        go_wp2
        go_ret
        exact ⟨Base.ret_bool HYY.out.symm, below_drewN HBB.out _⟩

end Go.Proofs.Ytenaeehefamdmaa.IsClasses
