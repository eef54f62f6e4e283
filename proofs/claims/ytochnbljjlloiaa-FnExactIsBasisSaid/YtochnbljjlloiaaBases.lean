/-
  Contracts of the laws' helpers on a basis (a life table and a rate), and of IsBasis of both packages.
  Conditions: the slice of the table has at most 1048576 elements.
-/
import Derived.Test.YtochnbljjlloiaaTables
import Derived.Test.YtochnbljjlloiaaLifeTables
namespace Go.Proofs.Ytochnbljjlloiaa.Bases
open Go.RowKit Mem
set_option linter.unusedVariables false

theorem szBasis_yes (f r : Int) (a : Option Addr) (n c : Nat) (l : Int) (w : World) (hn : n ≤ 9223372036854775807) (h1 : (n : Int) ≤ l) (h2 : l ≤ 1048576) :
    Calls Try.prog 29 #[.agg #[.int .i64 f, .slice a n c, .int .i64 r], .int .i64 l] w fun e w' => e = .returned (.int .i64 (l - n)) ∧ Below w.heap.size w w' := by
  go_enter Try.func29, Try.ntmps29
  go_wp2_with fail
  refine (Tables.szLifeTable_yes _ _ _ _ _ _ hn h1 h2).mono ?_; rintro e w1 ⟨rfl, hb1⟩
  go_wp2
  go_ret
  exact ⟨rfl, bl (b0 _ _) hb1⟩

theorem szBasis_no (f r : Int) (a : Option Addr) (n c : Nat) (l : Int) (w : World) (hn : n ≤ 9223372036854775807) (h0 : 0 ≤ l) (h1 : l < (n : Int)) (h2 : l ≤ 1048576) :
    Calls Try.prog 29 #[.agg #[.int .i64 f, .slice a n c, .int .i64 r], .int .i64 l] w fun e w' => e = .returned (.int .i64 (-1)) ∧ Below w.heap.size w w' := by
  go_enter Try.func29, Try.ntmps29
  go_wp2_with fail
  refine (Tables.szLifeTable_no _ _ _ _ _ _ hn h0 h1 h2).mono ?_; rintro e w1 ⟨rfl, hb1⟩
  go_wp2
  go_ret
  exact ⟨rfl, bl (b0 _ _) hb1⟩

theorem toBasis_any (f r : Int) (v : Value) (xs : List Int) (w : World) (h : Arg w v xs) (hn : xs.length ≤ 1048576) :
    Calls Try.prog 31 #[.agg #[.int .i64 f, v, .int .i64 r]] w fun e w' => ∃ u, e = .returned (.agg #[.int .i64 f, u, .int .i64 r]) ∧ Sl w' w.heap.size u xs ∧ Below w.heap.size w w' := by
  have ha : ∀ o1 o2 o3, Arg (((w.alloc o1).alloc o2).alloc o3) v xs := fun o1 o2 o3 => h.below ((((Below.refl _ _).alloc (by omega) _).alloc (by simp) _).alloc (by simp <;> omega) _)
  have HA := Lib.hid ha
  clear h ha
  go_enter Try.func31, Try.ntmps31
  go_wp2_with fail
  refine (Tables.toLifeTable_any _ _ xs _ (HA.out _ _ _) hn).mono ?_
  rintro e w1 ⟨u, rfl, hs, hb⟩
  obtain ⟨ua, uc, rfl⟩ := sl_shape hs
  obtain ⟨hc, hf⟩ := bcell hb
  have hz : w.heap.size + 1 + 1 < w1.heap.size := by have := hb.size; simp at this; omega
  have hs3 := sl_mono (B' := w.heap.size + 1 + 1 + 1) (by simp) hs
  have HS := Lib.hid hs3
  have HB := Lib.hid hb
  clear hs hs3 hb
  go_wp2
  refine bodyPost_ret (v := .agg #[.int .i64 f, .slice ua xs.length uc, .int .i64 r]) (by simp [results, Try.results31, go_sem, hc]) rfl ⟨_, rfl, ?_, ?_⟩
  · refine sl_mono (B := w.heap.size + 1 + 1 + 1) (by omega) ?_
    repeat (refine sl_setCell ?_ (by simp <;> omega) _)
    exact HS.out
  · repeat (refine Below.setCell ?_ (by simp <;> omega) _)
    exact (((Below.refl _ _).alloc (by omega) _).alloc (by simp) _).alloc (by simp <;> omega) _ |>.trans (HB.out.mono (by simp <;> omega))

theorem eqBasis_yes (f r : Int) (v u : Value) (xs : List Int) (w : World) (h : Rd w v xs) (g : Rd w u xs) :
    Calls Try.prog 33 #[.agg #[.int .i64 f, v, .int .i64 r], .agg #[.int .i64 f, u, .int .i64 r]] w fun e w' => e = .returned (.bool true) ∧ Below w.heap.size w w' := by
  have hr : ∀ o1 o2, Rd ((w.alloc o1).alloc o2) v xs := fun o1 o2 => h.below (((Below.refl _ _).alloc (by omega) _).alloc (by simp) _)
  have gr : ∀ o1 o2, Rd ((w.alloc o1).alloc o2) u xs := fun o1 o2 => g.below (((Below.refl _ _).alloc (by omega) _).alloc (by simp) _)
  have HR := Lib.hid hr
  have GR := Lib.hid gr
  obtain ⟨a1, c1, rfl, _⟩ := rd_shape h
  obtain ⟨a2, c2, rfl, _⟩ := rd_shape g
  clear h g hr gr
  go_enter Try.func33, Try.ntmps33
  go_wp2_with fail
  refine (Tables.eqLifeTable_yes _ _ _ xs _ (HR.out _ _) (GR.out _ _)).mono ?_
  rintro e w1 ⟨rfl, hb⟩
  obtain ⟨hc, hf⟩ := bcell hb
  have HB := Lib.hid hb
  clear hb
  go_wp2
  go_ret
  exact ⟨rfl, (((Below.refl _ _).alloc (by omega) _).alloc (by simp) _).trans (HB.out.mono (by simp <;> omega))⟩

/-- A basis is valid. -/
noncomputable def bsB (f r : Int) (xs : List Int) : Bool := LifeTables.ltB f xs && decide (0 ≤ r ∧ r ≤ 200)

theorem specIsBasis_any (f r : Int) (v : Value) (xs : List Int) (w : World) (h : Rd w v xs) :
    Calls Try.prog 30 #[.agg #[.int .i64 f, v, .int .i64 r]] w fun e w' => e = .returned (.bool (bsB f r xs)) ∧ Below w.heap.size w w' := by
  obtain ⟨a, c, rfl, hn⟩ := rd_shape h
  have HR := Lib.hid (fun o => h.below (b0 w o))
  have HX := Lib.hid (box3_new w (.int .i64 f) (.slice a xs.length c) (.int .i64 r))
  clear h
  cases hk : LifeTables.ltB f xs with
  | false =>
    have HN : Hid (bsB f r xs = false) := by show _ = _; unfold bsB; rw [hk]; rfl
    have HK := Lib.hid hk
    clear hk
    go_enter Try.func30, Try.ntmps30
    go_wp2_with fail
    refine (LifeTables.specIsLifeTable_any _ _ xs _ (HR.out _)).mono ?_; rintro e w1 ⟨rfl, hb1⟩; rw [HK.out]
    go_wp2
    go_ret
    exact ⟨Base.ret_bool HN.out.symm, bl (b0 _ _) hb1⟩
  | true =>
    by_cases hr : 0 ≤ r ∧ r ≤ 200
    · have HN : Hid (bsB f r xs = true) := by show _ = _; unfold bsB; rw [hk, decide_eq_true hr]; rfl
      have HK := Lib.hid hk
      obtain ⟨r1, r2⟩ := hr
      clear hk
      go_enter Try.func30, Try.ntmps30
      go_wp2_with fail
      refine (LifeTables.specIsLifeTable_any _ _ xs _ (HR.out _)).mono ?_; rintro e w1 ⟨rfl, hb1⟩; rw [HK.out]
      obtain ⟨x1, x2, x3, x4⟩ := (HX.out _).below hb1
      go_wp2_with (first
      | (go_at_call 58; refine (Base.l01In_yes _ _ _ _ (by omega) (by omega)).mono ?_; rintro e w' ⟨rfl, rfl⟩)
      | (go_at_call 58; refine (Base.l01In_no _ _ _ _ (by omega)).mono ?_; rintro e w' ⟨rfl, rfl⟩)
      | (go_at_call 60; refine (Base.inRange_yes _ _ _ _ (by omega) (by omega)).mono ?_; rintro e w' ⟨rfl, rfl⟩)
      | (go_at_call 60; refine (Base.inRange_no _ _ _ _ (by omega)).mono ?_; rintro e w' ⟨rfl, rfl⟩)
      | (go_at_call 63; refine (Base.spec_l01Money_yes _ _ (by omega) (by omega)).mono ?_; rintro e w' ⟨rfl, rfl⟩)
      | (go_at_call 63; refine (Base.spec_l01Money_no _ _ (by omega)).mono ?_; rintro e w' ⟨rfl, rfl⟩)
      | (go_at_call 65; refine (Base.impl_isMoney_yes _ _ (by omega) (by omega)).mono ?_; rintro e w' ⟨rfl, rfl⟩)
      | (go_at_call 65; refine (Base.impl_isMoney_no _ _ (by omega)).mono ?_; rintro e w' ⟨rfl, rfl⟩)
      | (go_at_call 67; refine (Base.spec_l04Rate_yes _ _ (by omega) (by omega)).mono ?_; rintro e w' ⟨rfl, rfl⟩)
      | (go_at_call 67; refine (Base.spec_l04Rate_no _ _ (by omega)).mono ?_; rintro e w' ⟨rfl, rfl⟩)
      | (go_at_call 68; refine (Base.impl_isRate_yes _ _ (by omega) (by omega)).mono ?_; rintro e w' ⟨rfl, rfl⟩)
      | (go_at_call 68; refine (Base.impl_isRate_no _ _ (by omega)).mono ?_; rintro e w' ⟨rfl, rfl⟩)
     )
      go_ret
      exact ⟨Base.ret_bool HN.out.symm, bl (b0 _ _) hb1⟩
    · have HN : Hid (bsB f r xs = false) := by show _ = _; unfold bsB; rw [hk, decide_eq_false hr]; rfl
      have HK := Lib.hid hk
      have hr' : r < 0 ∨ 200 < r := by omega
      clear hk hr
      go_enter Try.func30, Try.ntmps30
      go_wp2_with fail
      refine (LifeTables.specIsLifeTable_any _ _ xs _ (HR.out _)).mono ?_; rintro e w1 ⟨rfl, hb1⟩; rw [HK.out]
      obtain ⟨x1, x2, x3, x4⟩ := (HX.out _).below hb1
      go_wp2_with (first
      | (go_at_call 58; refine (Base.l01In_yes _ _ _ _ (by omega) (by omega)).mono ?_; rintro e w' ⟨rfl, rfl⟩)
      | (go_at_call 58; refine (Base.l01In_no _ _ _ _ (by omega)).mono ?_; rintro e w' ⟨rfl, rfl⟩)
      | (go_at_call 60; refine (Base.inRange_yes _ _ _ _ (by omega) (by omega)).mono ?_; rintro e w' ⟨rfl, rfl⟩)
      | (go_at_call 60; refine (Base.inRange_no _ _ _ _ (by omega)).mono ?_; rintro e w' ⟨rfl, rfl⟩)
      | (go_at_call 63; refine (Base.spec_l01Money_yes _ _ (by omega) (by omega)).mono ?_; rintro e w' ⟨rfl, rfl⟩)
      | (go_at_call 63; refine (Base.spec_l01Money_no _ _ (by omega)).mono ?_; rintro e w' ⟨rfl, rfl⟩)
      | (go_at_call 65; refine (Base.impl_isMoney_yes _ _ (by omega) (by omega)).mono ?_; rintro e w' ⟨rfl, rfl⟩)
      | (go_at_call 65; refine (Base.impl_isMoney_no _ _ (by omega)).mono ?_; rintro e w' ⟨rfl, rfl⟩)
      | (go_at_call 67; refine (Base.spec_l04Rate_yes _ _ (by omega) (by omega)).mono ?_; rintro e w' ⟨rfl, rfl⟩)
      | (go_at_call 67; refine (Base.spec_l04Rate_no _ _ (by omega)).mono ?_; rintro e w' ⟨rfl, rfl⟩)
      | (go_at_call 68; refine (Base.impl_isRate_yes _ _ (by omega) (by omega)).mono ?_; rintro e w' ⟨rfl, rfl⟩)
      | (go_at_call 68; refine (Base.impl_isRate_no _ _ (by omega)).mono ?_; rintro e w' ⟨rfl, rfl⟩)
     )
      go_ret
      exact ⟨Base.ret_bool HN.out.symm, bl (b0 _ _) hb1⟩

theorem implIsBasis_any (f r : Int) (v : Value) (xs : List Int) (w : World) (h : Rd w v xs) :
    Calls Try.prog 32 #[.agg #[.int .i64 f, v, .int .i64 r]] w fun e w' => e = .returned (.bool (bsB f r xs)) ∧ Below w.heap.size w w' := by
  obtain ⟨a, c, rfl, hn⟩ := rd_shape h
  have HR := Lib.hid (fun o => h.below (b0 w o))
  have HX := Lib.hid (box3_new w (.int .i64 f) (.slice a xs.length c) (.int .i64 r))
  clear h
  cases hk : LifeTables.ltB f xs with
  | false =>
    have HN : Hid (bsB f r xs = false) := by show _ = _; unfold bsB; rw [hk]; rfl
    have HK := Lib.hid hk
    clear hk
    go_enter Try.func32, Try.ntmps32
    go_wp2_with fail
    refine (LifeTables.implIsLifeTable_any _ _ xs _ (HR.out _)).mono ?_; rintro e w1 ⟨rfl, hb1⟩; rw [HK.out]
    go_wp2
    go_ret
    exact ⟨Base.ret_bool HN.out.symm, bl (b0 _ _) hb1⟩
  | true =>
    by_cases hr : 0 ≤ r ∧ r ≤ 200
    · have HN : Hid (bsB f r xs = true) := by show _ = _; unfold bsB; rw [hk, decide_eq_true hr]; rfl
      have HK := Lib.hid hk
      obtain ⟨r1, r2⟩ := hr
      clear hk
      go_enter Try.func32, Try.ntmps32
      go_wp2_with fail
      refine (LifeTables.implIsLifeTable_any _ _ xs _ (HR.out _)).mono ?_; rintro e w1 ⟨rfl, hb1⟩; rw [HK.out]
      obtain ⟨x1, x2, x3, x4⟩ := (HX.out _).below hb1
      go_wp2_with (first
      | (go_at_call 58; refine (Base.l01In_yes _ _ _ _ (by omega) (by omega)).mono ?_; rintro e w' ⟨rfl, rfl⟩)
      | (go_at_call 58; refine (Base.l01In_no _ _ _ _ (by omega)).mono ?_; rintro e w' ⟨rfl, rfl⟩)
      | (go_at_call 60; refine (Base.inRange_yes _ _ _ _ (by omega) (by omega)).mono ?_; rintro e w' ⟨rfl, rfl⟩)
      | (go_at_call 60; refine (Base.inRange_no _ _ _ _ (by omega)).mono ?_; rintro e w' ⟨rfl, rfl⟩)
      | (go_at_call 63; refine (Base.spec_l01Money_yes _ _ (by omega) (by omega)).mono ?_; rintro e w' ⟨rfl, rfl⟩)
      | (go_at_call 63; refine (Base.spec_l01Money_no _ _ (by omega)).mono ?_; rintro e w' ⟨rfl, rfl⟩)
      | (go_at_call 65; refine (Base.impl_isMoney_yes _ _ (by omega) (by omega)).mono ?_; rintro e w' ⟨rfl, rfl⟩)
      | (go_at_call 65; refine (Base.impl_isMoney_no _ _ (by omega)).mono ?_; rintro e w' ⟨rfl, rfl⟩)
      | (go_at_call 67; refine (Base.spec_l04Rate_yes _ _ (by omega) (by omega)).mono ?_; rintro e w' ⟨rfl, rfl⟩)
      | (go_at_call 67; refine (Base.spec_l04Rate_no _ _ (by omega)).mono ?_; rintro e w' ⟨rfl, rfl⟩)
      | (go_at_call 68; refine (Base.impl_isRate_yes _ _ (by omega) (by omega)).mono ?_; rintro e w' ⟨rfl, rfl⟩)
      | (go_at_call 68; refine (Base.impl_isRate_no _ _ (by omega)).mono ?_; rintro e w' ⟨rfl, rfl⟩)
     )
      go_ret
      exact ⟨Base.ret_bool HN.out.symm, bl (b0 _ _) hb1⟩
    · have HN : Hid (bsB f r xs = false) := by show _ = _; unfold bsB; rw [hk, decide_eq_false hr]; rfl
      have HK := Lib.hid hk
      have hr' : r < 0 ∨ 200 < r := by omega
      clear hk hr
      go_enter Try.func32, Try.ntmps32
      go_wp2_with fail
      refine (LifeTables.implIsLifeTable_any _ _ xs _ (HR.out _)).mono ?_; rintro e w1 ⟨rfl, hb1⟩; rw [HK.out]
      obtain ⟨x1, x2, x3, x4⟩ := (HX.out _).below hb1
      go_wp2_with (first
      | (go_at_call 58; refine (Base.l01In_yes _ _ _ _ (by omega) (by omega)).mono ?_; rintro e w' ⟨rfl, rfl⟩)
      | (go_at_call 58; refine (Base.l01In_no _ _ _ _ (by omega)).mono ?_; rintro e w' ⟨rfl, rfl⟩)
      | (go_at_call 60; refine (Base.inRange_yes _ _ _ _ (by omega) (by omega)).mono ?_; rintro e w' ⟨rfl, rfl⟩)
      | (go_at_call 60; refine (Base.inRange_no _ _ _ _ (by omega)).mono ?_; rintro e w' ⟨rfl, rfl⟩)
      | (go_at_call 63; refine (Base.spec_l01Money_yes _ _ (by omega) (by omega)).mono ?_; rintro e w' ⟨rfl, rfl⟩)
      | (go_at_call 63; refine (Base.spec_l01Money_no _ _ (by omega)).mono ?_; rintro e w' ⟨rfl, rfl⟩)
      | (go_at_call 65; refine (Base.impl_isMoney_yes _ _ (by omega) (by omega)).mono ?_; rintro e w' ⟨rfl, rfl⟩)
      | (go_at_call 65; refine (Base.impl_isMoney_no _ _ (by omega)).mono ?_; rintro e w' ⟨rfl, rfl⟩)
      | (go_at_call 67; refine (Base.spec_l04Rate_yes _ _ (by omega) (by omega)).mono ?_; rintro e w' ⟨rfl, rfl⟩)
      | (go_at_call 67; refine (Base.spec_l04Rate_no _ _ (by omega)).mono ?_; rintro e w' ⟨rfl, rfl⟩)
      | (go_at_call 68; refine (Base.impl_isRate_yes _ _ (by omega) (by omega)).mono ?_; rintro e w' ⟨rfl, rfl⟩)
      | (go_at_call 68; refine (Base.impl_isRate_no _ _ (by omega)).mono ?_; rintro e w' ⟨rfl, rfl⟩)
     )
      go_ret
      exact ⟨Base.ret_bool HN.out.symm, bl (b0 _ _) hb1⟩

end Go.Proofs.Ytochnbljjlloiaa.Bases
