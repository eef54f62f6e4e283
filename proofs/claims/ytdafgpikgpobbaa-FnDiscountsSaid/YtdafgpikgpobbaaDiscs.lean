/-
  Contract of the program's discounts: it makes the list of the discounts after 0 to 120 years.
  Conditions: the rate lies in 0 .. 200.
-/
import Derived.Test.YtdafgpikgpobbaaMem
import Derived.Test.YtdafgpikgpobbaaPlain
import Derived.Test.YtdafgpikgpobbaaLists
import Derived.Test.YtdafgpikgpobbaaRound
namespace Go.Proofs.Ytdafgpikgpobbaa.Discs
open Go.RowKit Mem
set_option linter.unusedVariables false

theorem info64 : (Try.prog.info? 2).map (fun i => (i.zero, i.size, i.bytes)) = some (some (.int .i64 0), 1, 8) := by kernel_rfl

set_option maxHeartbeats 1000000 in
set_option maxRecDepth 1000000 in
theorem discounts_any (r : Int) (w : World) (h1 : 0 ≤ r) (h2 : r ≤ 200) :
    Calls Try.prog 96 #[.int .i64 r] w fun e w' => ∃ v, e = .returned v ∧ Sl w' w.heap.size v (Plain.discs r 121) ∧ Below w.heap.size w w' := by
  obtain ⟨i0, hi, hz0, hz1, hz2⟩ := info_parts info64
  go_enter Try.func96, Try.ntmps96
  go_wp2
  go_loopw [3, 4, 6] (fun o dd i wr => ∃ (k : Nat) (d : Int), k ≤ 121 ∧ i = .int .i64 k ∧ dd = .int .i64 d ∧ 0 ≤ d ∧ d ≤ 1000000000 ∧ Hid (d = Plain.disc r k) ∧ wr.ownsRow w.heap.size 2 1 o k ((Plain.discs r k).map (Value.int .i64)) ∧ Below w.heap.size w wr ∧ w.heap.size ≤ wr.heap.size) (fun _ _ i _ => 121 - (intOf i).toNat)
  case atStart => exact ⟨0, 1000000000, by omega, rfl, rfl, by omega, by omega, rfl, World.ownsRow_made w #[] 0 (by omega) (by unfold maxLen; omega) rfl, (Below.refl _ _).alloc (by omega) _, by simp⟩
  case round =>
    obtain ⟨k, d, hk, rfl, rfl, hd, hd2, H, hown, hnx, hsz⟩ := hrel
    obtain ⟨b1, b2⟩ := Plain.disc_bd r h1 (k + 1)
    rw [Plain.disc_succ, ← H.out] at b1 b2
    by_cases hlt : k < 121
    · go_wp2_with (at_builtin; refine wpList_append_own _ rfl _ _ 34 rfl w.heap.size 2 i0 (.int .i64 0) 1 8 Try.underlying34 hi hz0 hz1 hz2 rfl (by decide) _ _ _ rfl (hown.alloc _) ⟨wr.heap.size, 0, none⟩ 1 1 [.int .i64 d] rfl rfl (by intro j u hj; match j, hj with | 0, hj => simp at hj; subst hj; simp [Addr.add]) (by intro u hu; simp at hu; subst hu; rfl) (by unfold maxLen; omega) (by omega) (by simp; omega) ?_; intro v' w1 hown' hgrow hnil')
      obtain ⟨a1, a2⟩ := app_step hnx hsz hown hgrow
      go_wp2
      go_roundw
      case rel => exact ⟨k + 1, d * 1000 / (1000 + r), by omega, by go_num, rfl, by omega, by omega, by show _ = _; rw [Plain.disc_succ, ← H.out], by rw [Plain.discs_succ, List.map_append, ← H.out]; exact hown', a1, a2⟩
      case measure => simp [intOf]; omega
    · obtain rfl : k = 121 := by omega
      go_wp2
      go_ret
      exact ⟨_, rfl, sl_of_own hown (by rw [Plain.discs_length]; omega), hnx⟩

/-- The same, the slice written out. -/
theorem discounts_row (r : Int) (w : World) (h1 : 0 ≤ r) (h2 : r ≤ 200) :
    Calls Try.prog 96 #[.int .i64 r] w fun e w' => ∃ b off cap, e = .returned (.slice (some ⟨b, off, none⟩) 121 cap) ∧ 121 ≤ cap ∧ cap ≤ 9223372036854775807 ∧ b < w'.heap.size ∧
      Hid (∀ i, i < 121 → w'.cell? ⟨b, off + i, none⟩ = some (.int .i64 (Plain.disc r i))) ∧ Below w.heap.size w w' := by
  refine (discounts_any r w h1 h2).mono ?_
  rintro e w' ⟨v, rfl, hs, hb⟩
  rcases hs.rd with ⟨_, hn⟩ | ⟨b, off, cap, rfl, hn, hl, hm, hbl, hx⟩
  · have := congrArg List.length hn; rw [Plain.discs_length] at this; simp at this
  · rw [Plain.discs_length] at hn hl hx ⊢
    exact ⟨b, off, cap, rfl, hl, hm, hbl, fun i hi => by rw [hx i hi, Plain.discs_get _ _ _ hi], hb⟩

/-- A part of the list of discounts reads as a part of the list. -/
theorem rd_part {r : Int} {w : World} {b off : Nat} (hbl : b < w.heap.size) (h : ∀ i, i < 121 → w.cell? ⟨b, off + i, none⟩ = some (.int .i64 (Plain.disc r i))) (f n c : Nat) (hf : f + n ≤ 121) (hc : n ≤ c) (hc2 : c ≤ 9223372036854775807) :
    Rd w (.slice (some ⟨b, off + f, none⟩) n c) (((Plain.discs r 121).drop f).take n) := by
  have hl : (((Plain.discs r 121).drop f).take n).length = n := by simp [Plain.discs_length]; omega
  refine .inr ⟨b, off + f, c, by rw [hl], by omega, by omega, hc2, hbl, fun i hi => ?_⟩
  rw [Nat.add_assoc, h (f + i) (by omega)]
  congr 2
  simp [List.getD, Plain.discs, List.getElem?_drop, show i < n from by omega, show f + i < 121 from by omega]
theorem within_part (r : Int) (h : 0 ≤ r) (f n : Nat) : within (-1000000000) 1000000000 (((Plain.discs r 121).drop f).take n) = true := by
  simp only [within, List.all_eq_true, decide_eq_true_eq]
  intro x hx
  have := List.mem_of_mem_drop (List.mem_of_mem_take hx)
  simp only [Plain.discs, List.mem_map] at this
  obtain ⟨i, _, rfl⟩ := this
  have := Plain.disc_bd r h i
  omega

theorem implDiscountOf_in (r y : Int) (w : World) (h1 : 0 ≤ r) (h2 : r ≤ 200) (h3 : 0 ≤ y) (h4 : y ≤ 120) :
    Calls Try.prog 52 #[.int .i64 r, .int .i64 y] w fun e w' => e = .returned (.tuple #[.int .i64 (Plain.disc r y.toNat), .int .i64 0]) ∧ Below w.heap.size w w' := by
  obtain ⟨n, rfl⟩ := Int.eq_ofNat_of_zero_le h3
  rw [Int.toNat_natCast]
  go_enter Try.func52, Try.ntmps52
  go_wp2_with (first
      | (go_at_call 96; refine (discounts_row _ _ (by omega) (by omega)).mono ?_; rintro e w' ⟨b, off, cap, rfl, hc1, hc2, hbl, hcells, hb⟩; have hcell := hcells.out n (by omega))
      | (go_at_call 65; refine (Base.l01In_yes _ _ _ _ (by omega) (by omega)).mono ?_; rintro e w' ⟨rfl, rfl⟩)
      | (go_at_call 65; refine (Base.l01In_no _ _ _ _ (by omega)).mono ?_; rintro e w' ⟨rfl, rfl⟩)
      | (go_at_call 63; refine (Base.inRange_yes _ _ _ _ (by omega) (by omega)).mono ?_; rintro e w' ⟨rfl, rfl⟩)
      | (go_at_call 63; refine (Base.inRange_no _ _ _ _ (by omega)).mono ?_; rintro e w' ⟨rfl, rfl⟩)
      | (go_at_call 70; refine (Base.spec_l01Money_yes _ _ (by omega) (by omega)).mono ?_; rintro e w' ⟨rfl, rfl⟩)
      | (go_at_call 70; refine (Base.spec_l01Money_no _ _ (by omega)).mono ?_; rintro e w' ⟨rfl, rfl⟩)
      | (go_at_call 68; refine (Base.impl_isMoney_yes _ _ (by omega) (by omega)).mono ?_; rintro e w' ⟨rfl, rfl⟩)
      | (go_at_call 68; refine (Base.impl_isMoney_no _ _ (by omega)).mono ?_; rintro e w' ⟨rfl, rfl⟩)
      | (go_at_call 79; refine (Base.spec_l02Month_yes _ _ (by omega) (by omega)).mono ?_; rintro e w' ⟨rfl, rfl⟩)
      | (go_at_call 79; refine (Base.spec_l02Month_no _ _ (by omega)).mono ?_; rintro e w' ⟨rfl, rfl⟩)
      | (go_at_call 78; refine (Base.impl_isMonth_yes _ _ (by omega) (by omega)).mono ?_; rintro e w' ⟨rfl, rfl⟩)
      | (go_at_call 78; refine (Base.impl_isMonth_no _ _ (by omega)).mono ?_; rintro e w' ⟨rfl, rfl⟩)
      | (go_at_call 90; refine (Base.spec_l04Rate_yes _ _ (by omega) (by omega)).mono ?_; rintro e w' ⟨rfl, rfl⟩)
      | (go_at_call 90; refine (Base.spec_l04Rate_no _ _ (by omega)).mono ?_; rintro e w' ⟨rfl, rfl⟩)
      | (go_at_call 89; refine (Base.impl_isRate_yes _ _ (by omega) (by omega)).mono ?_; rintro e w' ⟨rfl, rfl⟩)
      | (go_at_call 89; refine (Base.impl_isRate_no _ _ (by omega)).mono ?_; rintro e w' ⟨rfl, rfl⟩)
      | (go_at_call 84; refine (Base.impl_isYears_yes _ _ (by omega) (by omega)).mono ?_; rintro e w' ⟨rfl, rfl⟩)
      | (go_at_call 84; refine (Base.impl_isYears_no _ _ (by omega)).mono ?_; rintro e w' ⟨rfl, rfl⟩)
      | (go_at_call 86; refine (Base.spec_l04Amount_yes _ _ (by omega) (by omega)).mono ?_; rintro e w' ⟨rfl, rfl⟩)
      | (go_at_call 86; refine (Base.spec_l04Amount_no _ _ (by omega)).mono ?_; rintro e w' ⟨rfl, rfl⟩)
      | (go_at_call 83; refine (Base.impl_isAmount_yes _ _ (by omega) (by omega)).mono ?_; rintro e w' ⟨rfl, rfl⟩)
      | (go_at_call 83; refine (Base.impl_isAmount_no _ _ (by omega)).mono ?_; rintro e w' ⟨rfl, rfl⟩)
      | (go_at_call 94; refine (Base.spec_l04Loan_yes _ _ _ _ (by omega) (by omega) (by omega) (by omega) (by omega) (by omega)).mono ?_; rintro e w' ⟨rfl, rfl⟩)
      | (go_at_call 94; refine (Base.spec_l04Loan_no _ _ _ _ (by omega)).mono ?_; rintro e w' ⟨rfl, rfl⟩)
      | (go_at_call 92; refine (Base.impl_isLoan_yes _ _ _ _ (by omega) (by omega) (by omega) (by omega) (by omega) (by omega)).mono ?_; rintro e w' ⟨rfl, rfl⟩)
      | (go_at_call 92; refine (Base.impl_isLoan_no _ _ _ _ (by omega)).mono ?_; rintro e w' ⟨rfl, rfl⟩)
      | go_in)
  go_ret2
  exact ⟨rfl, hb⟩

theorem implCertainAnnuity_in (r y : Int) (w : World) (h1 : 0 ≤ r) (h2 : r ≤ 200) (h3 : 0 ≤ y) (h4 : y ≤ 120) :
    Calls Try.prog 54 #[.int .i64 r, .int .i64 y] w fun e w' => e = .returned (.tuple #[.int .i64 (Plain.dsum r 0 y.toNat), .int .i64 0]) ∧ Below w.heap.size w w' := by
  obtain ⟨n, rfl⟩ := Int.eq_ofNat_of_zero_le h3
  rw [Int.toNat_natCast]
  have SD := Lib.hid (Plain.sum_discs r 0 n 121 (by omega))
  go_enter Try.func54, Try.ntmps54
  go_wp2_with (first
      | (go_at_call 96; refine (discounts_row _ _ (by omega) (by omega)).mono ?_; rintro e w' ⟨b, off, cap, rfl, hc1, hc2, hbl, hcells, hb⟩) | (go_at_call 98; refine (Lists.total_any _ (((Plain.discs r 121).drop 0).take n) _ (rd_part hbl hcells.out 0 n cap (by omega) (by omega) (by omega)) 1000000000 (by omega) (within_part r h1 0 n) (by simp [Plain.discs_length]; omega)).mono ?_; rintro e w2 ⟨rfl, hb2⟩)
      | (go_at_call 65; refine (Base.l01In_yes _ _ _ _ (by omega) (by omega)).mono ?_; rintro e w' ⟨rfl, rfl⟩)
      | (go_at_call 65; refine (Base.l01In_no _ _ _ _ (by omega)).mono ?_; rintro e w' ⟨rfl, rfl⟩)
      | (go_at_call 63; refine (Base.inRange_yes _ _ _ _ (by omega) (by omega)).mono ?_; rintro e w' ⟨rfl, rfl⟩)
      | (go_at_call 63; refine (Base.inRange_no _ _ _ _ (by omega)).mono ?_; rintro e w' ⟨rfl, rfl⟩)
      | (go_at_call 70; refine (Base.spec_l01Money_yes _ _ (by omega) (by omega)).mono ?_; rintro e w' ⟨rfl, rfl⟩)
      | (go_at_call 70; refine (Base.spec_l01Money_no _ _ (by omega)).mono ?_; rintro e w' ⟨rfl, rfl⟩)
      | (go_at_call 68; refine (Base.impl_isMoney_yes _ _ (by omega) (by omega)).mono ?_; rintro e w' ⟨rfl, rfl⟩)
      | (go_at_call 68; refine (Base.impl_isMoney_no _ _ (by omega)).mono ?_; rintro e w' ⟨rfl, rfl⟩)
      | (go_at_call 79; refine (Base.spec_l02Month_yes _ _ (by omega) (by omega)).mono ?_; rintro e w' ⟨rfl, rfl⟩)
      | (go_at_call 79; refine (Base.spec_l02Month_no _ _ (by omega)).mono ?_; rintro e w' ⟨rfl, rfl⟩)
      | (go_at_call 78; refine (Base.impl_isMonth_yes _ _ (by omega) (by omega)).mono ?_; rintro e w' ⟨rfl, rfl⟩)
      | (go_at_call 78; refine (Base.impl_isMonth_no _ _ (by omega)).mono ?_; rintro e w' ⟨rfl, rfl⟩)
      | (go_at_call 90; refine (Base.spec_l04Rate_yes _ _ (by omega) (by omega)).mono ?_; rintro e w' ⟨rfl, rfl⟩)
      | (go_at_call 90; refine (Base.spec_l04Rate_no _ _ (by omega)).mono ?_; rintro e w' ⟨rfl, rfl⟩)
      | (go_at_call 89; refine (Base.impl_isRate_yes _ _ (by omega) (by omega)).mono ?_; rintro e w' ⟨rfl, rfl⟩)
      | (go_at_call 89; refine (Base.impl_isRate_no _ _ (by omega)).mono ?_; rintro e w' ⟨rfl, rfl⟩)
      | (go_at_call 84; refine (Base.impl_isYears_yes _ _ (by omega) (by omega)).mono ?_; rintro e w' ⟨rfl, rfl⟩)
      | (go_at_call 84; refine (Base.impl_isYears_no _ _ (by omega)).mono ?_; rintro e w' ⟨rfl, rfl⟩)
      | (go_at_call 86; refine (Base.spec_l04Amount_yes _ _ (by omega) (by omega)).mono ?_; rintro e w' ⟨rfl, rfl⟩)
      | (go_at_call 86; refine (Base.spec_l04Amount_no _ _ (by omega)).mono ?_; rintro e w' ⟨rfl, rfl⟩)
      | (go_at_call 83; refine (Base.impl_isAmount_yes _ _ (by omega) (by omega)).mono ?_; rintro e w' ⟨rfl, rfl⟩)
      | (go_at_call 83; refine (Base.impl_isAmount_no _ _ (by omega)).mono ?_; rintro e w' ⟨rfl, rfl⟩)
      | (go_at_call 94; refine (Base.spec_l04Loan_yes _ _ _ _ (by omega) (by omega) (by omega) (by omega) (by omega) (by omega)).mono ?_; rintro e w' ⟨rfl, rfl⟩)
      | (go_at_call 94; refine (Base.spec_l04Loan_no _ _ _ _ (by omega)).mono ?_; rintro e w' ⟨rfl, rfl⟩)
      | (go_at_call 92; refine (Base.impl_isLoan_yes _ _ _ _ (by omega) (by omega) (by omega) (by omega) (by omega) (by omega)).mono ?_; rintro e w' ⟨rfl, rfl⟩)
      | (go_at_call 92; refine (Base.impl_isLoan_no _ _ _ _ (by omega)).mono ?_; rintro e w' ⟨rfl, rfl⟩)
      | go_in)
  go_ret2
  exact ⟨Base.ret_ii SD.out rfl, bl hb hb2⟩

theorem loanPayment_any (a r y : Int) (w : World) (ha : 1 ≤ a) (ha2 : a ≤ 100000000) (h1 : 0 ≤ r) (h2 : r ≤ 200) (h3 : 1 ≤ y) (h4 : y ≤ 60) :
    Calls Try.prog 93 #[.int .i64 a, .int .i64 r, .int .i64 y] w fun e w' => e = .returned (.int .i64 (Plain.upq (a * 1000000000) (Plain.dsum r 1 y.toNat))) ∧ Below w.heap.size w w' := by
  obtain ⟨n, rfl⟩ := Int.eq_ofNat_of_zero_le (show 0 ≤ y by omega)
  rw [Int.toNat_natCast]
  have SD := Lib.hid (Plain.sum_discs r 1 n 121 (by omega))
  have p1 := Plain.dsum_pos r h1 h2 n (by omega)
  have p2 := (Plain.dsum_bd r h1 1 n).2
  have hy : Hid (((n : Int) + 1).toNat - 1 = n) := by show _ = _; omega
  go_enter Try.func93, Try.ntmps93
  go_wp2_with (first
      | (go_at_call 96; refine (discounts_row _ _ (by omega) (by omega)).mono ?_; rintro e w' ⟨b, off, cap, rfl, hc1, hc2, hbl, hcells, hb⟩) | (go_at_call 98; refine (Lists.total_any _ (((Plain.discs r 121).drop 1).take n) _ (rd_part hbl hcells.out 1 n (cap - 1) (by omega) (by omega) (by omega)) 1000000000 (by omega) (within_part r h1 1 n) (by simp [Plain.discs_length]; omega)).mono ?_; rintro e w2 ⟨rfl, hb2⟩; rw [SD.out]) | (go_at_call 72; refine (Round.up_any _ _ _ (by omega) (by omega) (by omega) (by omega)).mono ?_; rintro e w3 ⟨rfl, rfl⟩)
      | (go_at_call 65; refine (Base.l01In_yes _ _ _ _ (by omega) (by omega)).mono ?_; rintro e w' ⟨rfl, rfl⟩)
      | (go_at_call 65; refine (Base.l01In_no _ _ _ _ (by omega)).mono ?_; rintro e w' ⟨rfl, rfl⟩)
      | (go_at_call 63; refine (Base.inRange_yes _ _ _ _ (by omega) (by omega)).mono ?_; rintro e w' ⟨rfl, rfl⟩)
      | (go_at_call 63; refine (Base.inRange_no _ _ _ _ (by omega)).mono ?_; rintro e w' ⟨rfl, rfl⟩)
      | (go_at_call 70; refine (Base.spec_l01Money_yes _ _ (by omega) (by omega)).mono ?_; rintro e w' ⟨rfl, rfl⟩)
      | (go_at_call 70; refine (Base.spec_l01Money_no _ _ (by omega)).mono ?_; rintro e w' ⟨rfl, rfl⟩)
      | (go_at_call 68; refine (Base.impl_isMoney_yes _ _ (by omega) (by omega)).mono ?_; rintro e w' ⟨rfl, rfl⟩)
      | (go_at_call 68; refine (Base.impl_isMoney_no _ _ (by omega)).mono ?_; rintro e w' ⟨rfl, rfl⟩)
      | (go_at_call 79; refine (Base.spec_l02Month_yes _ _ (by omega) (by omega)).mono ?_; rintro e w' ⟨rfl, rfl⟩)
      | (go_at_call 79; refine (Base.spec_l02Month_no _ _ (by omega)).mono ?_; rintro e w' ⟨rfl, rfl⟩)
      | (go_at_call 78; refine (Base.impl_isMonth_yes _ _ (by omega) (by omega)).mono ?_; rintro e w' ⟨rfl, rfl⟩)
      | (go_at_call 78; refine (Base.impl_isMonth_no _ _ (by omega)).mono ?_; rintro e w' ⟨rfl, rfl⟩)
      | (go_at_call 90; refine (Base.spec_l04Rate_yes _ _ (by omega) (by omega)).mono ?_; rintro e w' ⟨rfl, rfl⟩)
      | (go_at_call 90; refine (Base.spec_l04Rate_no _ _ (by omega)).mono ?_; rintro e w' ⟨rfl, rfl⟩)
      | (go_at_call 89; refine (Base.impl_isRate_yes _ _ (by omega) (by omega)).mono ?_; rintro e w' ⟨rfl, rfl⟩)
      | (go_at_call 89; refine (Base.impl_isRate_no _ _ (by omega)).mono ?_; rintro e w' ⟨rfl, rfl⟩)
      | (go_at_call 84; refine (Base.impl_isYears_yes _ _ (by omega) (by omega)).mono ?_; rintro e w' ⟨rfl, rfl⟩)
      | (go_at_call 84; refine (Base.impl_isYears_no _ _ (by omega)).mono ?_; rintro e w' ⟨rfl, rfl⟩)
      | (go_at_call 86; refine (Base.spec_l04Amount_yes _ _ (by omega) (by omega)).mono ?_; rintro e w' ⟨rfl, rfl⟩)
      | (go_at_call 86; refine (Base.spec_l04Amount_no _ _ (by omega)).mono ?_; rintro e w' ⟨rfl, rfl⟩)
      | (go_at_call 83; refine (Base.impl_isAmount_yes _ _ (by omega) (by omega)).mono ?_; rintro e w' ⟨rfl, rfl⟩)
      | (go_at_call 83; refine (Base.impl_isAmount_no _ _ (by omega)).mono ?_; rintro e w' ⟨rfl, rfl⟩)
      | (go_at_call 94; refine (Base.spec_l04Loan_yes _ _ _ _ (by omega) (by omega) (by omega) (by omega) (by omega) (by omega)).mono ?_; rintro e w' ⟨rfl, rfl⟩)
      | (go_at_call 94; refine (Base.spec_l04Loan_no _ _ _ _ (by omega)).mono ?_; rintro e w' ⟨rfl, rfl⟩)
      | (go_at_call 92; refine (Base.impl_isLoan_yes _ _ _ _ (by omega) (by omega) (by omega) (by omega) (by omega) (by omega)).mono ?_; rintro e w' ⟨rfl, rfl⟩)
      | (go_at_call 92; refine (Base.impl_isLoan_no _ _ _ _ (by omega)).mono ?_; rintro e w' ⟨rfl, rfl⟩)
      | go_in)
  go_ret
  exact ⟨rfl, bl hb hb2⟩

end Go.Proofs.Ytdafgpikgpobbaa.Discs
