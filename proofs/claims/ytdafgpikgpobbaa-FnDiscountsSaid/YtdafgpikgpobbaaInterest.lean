/-
  Contracts of the functions on discounts and growth that use no list: the reference's l04Discount, l04Annuity, l04Grow and the program's grown.
  Conditions: the rate lies in 0 .. 200, the years in 0 .. 1000, an amount in 0 .. 1000000000000.
-/
import Derived.Test.YtdafgpikgpobbaaBase
import Derived.Test.YtdafgpikgpobbaaPlain
namespace Go.Proofs.Ytdafgpikgpobbaa.Interest
open Go.RowKit
set_option linter.unusedVariables false

theorem l04Discount_any (r y : Int) (w : World) (h1 : 0 ≤ r) (h2 : r ≤ 200) (h3 : 0 ≤ y) (h4 : y ≤ 1000) :
    Calls Try.prog 97 #[.int .i64 r, .int .i64 y] w fun e w' => e = .returned (.int .i64 (Plain.disc r y.toNat)) ∧ w = w' := by
  obtain ⟨n, rfl⟩ := Int.eq_ofNat_of_zero_le h3
  rw [Int.toNat_natCast]
  go_enter Try.func97, Try.ntmps97
  go_wp2
  go_loop [5, 6] (fun o i => ∃ (k : Nat) (d : Int), k ≤ n ∧ 0 ≤ d ∧ d ≤ 1000000000 ∧ i = .int .i64 k ∧ o = .int .i64 d ∧ Hid (d = Plain.disc r k)) (fun _ i => n - (intOf i).toNat)
  case atStart => exact ⟨0, 1000000000, by omega, by omega, by omega, rfl, rfl, rfl⟩
  case round =>
    obtain ⟨k, d, hk, hd, hd2, rfl, rfl, H⟩ := hrel
    obtain ⟨b1, b2⟩ := Plain.disc_bd r h1 (k + 1)
    rw [Plain.disc_succ, ← H.out] at b1 b2
    by_cases hlt : k < n
    · go_wp2
      go_round
      case rel => exact ⟨k + 1, d * 1000 / (1000 + r), by omega, by omega, by omega, by go_num, rfl, by show _ = _; rw [Plain.disc_succ, ← H.out]⟩
      case measure => simp [intOf]; omega
    · obtain rfl : k = n := by omega
      go_wp2
      go_ret
      exact ⟨Base.ret_int H.out, rfl⟩

theorem l04Annuity_any (r f y : Int) (w : World) (h1 : 0 ≤ r) (h2 : r ≤ 200) (h3 : 0 ≤ f) (h4 : f ≤ 500) (h5 : 0 ≤ y) (h6 : y ≤ 500) :
    Calls Try.prog 99 #[.int .i64 r, .int .i64 f, .int .i64 y] w fun e w' => e = .returned (.int .i64 (Plain.dsum r f.toNat y.toNat)) ∧ w = w' := by
  obtain ⟨m, rfl⟩ := Int.eq_ofNat_of_zero_le h3
  obtain ⟨n, rfl⟩ := Int.eq_ofNat_of_zero_le h5
  rw [Int.toNat_natCast, Int.toNat_natCast]
  go_enter Try.func99, Try.ntmps99
  go_wp2
  go_loop [7, 8] (fun o i => ∃ (k : Nat) (s : Int), k ≤ n ∧ 0 ≤ s ∧ s ≤ 1000000000 * k ∧ i = .int .i64 ((m : Int) + k) ∧ o = .int .i64 s ∧ Hid (s = Plain.dsum r m k)) (fun _ i => m + n - (intOf i).toNat)
  case atStart => exact ⟨0, 0, by omega, by omega, by omega, by go_num, rfl, rfl⟩
  case round =>
    obtain ⟨k, s, hk, hs, hs2, rfl, rfl, H⟩ := hrel
    obtain ⟨b1, b2⟩ := Plain.disc_bd r h1 (m + k)
    by_cases hlt : k < n
    · have E : Hid (((m : Int) + (k : Int)).toNat = m + k) := by show _ = _; omega
      go_wp2_with (go_at_call 97; refine (l04Discount_any _ _ _ (by omega) (by omega) (by omega) (by omega)).mono ?_; rintro e w' ⟨rfl, rfl⟩; rw [E.out])
      go_round
      case rel => exact ⟨k + 1, s + Plain.disc r (m + k), by omega, by omega, by omega, by go_num, rfl, by show _ = Plain.dsum r m k + _; rw [← H.out]⟩
      case measure => simp [intOf]; omega
    · obtain rfl : k = n := by omega
      go_wp2
      go_ret
      exact ⟨Base.ret_int H.out, rfl⟩

theorem l04Grow_any (a r y : Int) (w : World) (ha : 0 ≤ a) (ha2 : a ≤ 1000000000000) (h1 : 0 ≤ r) (h2 : r ≤ 200) (h3 : 0 ≤ y) (h4 : y ≤ 1000) :
    Calls Try.prog 87 #[.int .i64 a, .int .i64 r, .int .i64 y] w fun e w' => e = .returned (.int .i64 (Plain.gc a r y.toNat)) ∧ w = w' := by
  obtain ⟨n, rfl⟩ := Int.eq_ofNat_of_zero_le h3
  rw [Int.toNat_natCast]
  go_enter Try.func87, Try.ntmps87
  go_wp2
  go_loop [0, 7] (fun o i => ∃ (k : Nat) (g : Int), k ≤ n ∧ 0 ≤ g ∧ g ≤ 1200000000000 ∧ i = .int .i64 k ∧ o = .int .i64 g ∧ Hid (g = Plain.gc a r k)) (fun _ i => n - (intOf i).toNat)
  case atStart => exact ⟨0, a, by omega, by omega, by omega, rfl, rfl, rfl⟩
  case round =>
    obtain ⟨k, g, hk, hg, hg2, rfl, rfl, H⟩ := hrel
    by_cases hlt : k < n
    · by_cases hm : g ≤ 1000000000000
      · obtain ⟨s1, s2, s3, s4⟩ := Plain.grow_step g r hg hm h1 h2
        go_wp2
        go_round
        case rel => exact ⟨k + 1, g + g * r / 1000, by omega, by omega, by omega, by go_num, rfl, by show _ = _; rw [Plain.gc_yes _ _ _ (by rw [← H.out]; omega), ← H.out]⟩
        case measure => simp [intOf]; omega
      · have S := Lib.hid (Plain.gc_stuck a r k n (by rw [← H.out]; omega) (by omega))
        go_wp2
        go_ret
        exact ⟨Base.ret_int (H.out.trans S.out.symm), rfl⟩
    · obtain rfl : k = n := by omega
      go_wp2
      go_ret
      exact ⟨Base.ret_int H.out, rfl⟩

theorem grown_yes (a r y : Int) (w : World) (ha : 0 ≤ a) (ha2 : a ≤ 1000000000000) (h1 : 0 ≤ r) (h2 : r ≤ 200) (h3 : 0 ≤ y) (h4 : y ≤ 1000) (hg : Plain.gc a r y.toNat ≤ 1000000000000) :
    Calls Try.prog 85 #[.int .i64 a, .int .i64 r, .int .i64 y] w fun e w' => e = .returned (.tuple #[.int .i64 (Plain.gc a r y.toNat), .bool true]) ∧ w = w' := by
  obtain ⟨n, rfl⟩ := Int.eq_ofNat_of_zero_le h3
  rw [Int.toNat_natCast] at hg ⊢
  have hm : ∀ k, k ≤ n → Plain.gc a r k ≤ 1000000000000 := fun k hk => by have := Plain.gc_mono a r ha ha2 h1 h2 k n hk; omega
  have HM := Lib.hid hm
  clear hm
  go_enter Try.func85, Try.ntmps85
  go_wp2
  go_loop [0, 9] (fun o i => ∃ (k : Nat) (g : Int), k ≤ n ∧ 0 ≤ g ∧ g ≤ 1000000000000 ∧ i = .int .i64 k ∧ o = .int .i64 g ∧ Hid (g = Plain.gc a r k)) (fun _ i => n - (intOf i).toNat)
  case atStart => exact ⟨0, a, by omega, by omega, by omega, rfl, rfl, rfl⟩
  case round =>
    obtain ⟨k, g, hk, hg, hg2, rfl, rfl, H⟩ := hrel
    by_cases hlt : k < n
    · obtain ⟨s1, s2, s3, s4⟩ := Plain.grow_step g r hg hg2 h1 h2
      have E := Lib.hid (Plain.gc_yes a r k (by rw [← H.out]; omega))
      have hn := HM.out (k + 1) (by omega)
      rw [E.out, ← H.out] at hn
      go_wp2
      go_round
      case rel => exact ⟨k + 1, g + g * r / 1000, by omega, by omega, by omega, by go_num, rfl, by show _ = _; rw [E.out, ← H.out]⟩
      case measure => simp [intOf]; omega
    · obtain rfl : k = n := by omega
      go_wp2
      go_ret2
      exact ⟨Base.ret_ib H.out rfl, rfl⟩

theorem grown_no (a r y : Int) (w : World) (ha : 0 ≤ a) (ha2 : a ≤ 1000000000000) (h1 : 0 ≤ r) (h2 : r ≤ 200) (h3 : 0 ≤ y) (h4 : y ≤ 1000) (hg : 1000000000000 < Plain.gc a r y.toNat) :
    Calls Try.prog 85 #[.int .i64 a, .int .i64 r, .int .i64 y] w fun e w' => e = .returned (.tuple #[.int .i64 0, .bool false]) ∧ w = w' := by
  obtain ⟨n, rfl⟩ := Int.eq_ofNat_of_zero_le h3
  rw [Int.toNat_natCast] at hg
  have HG := Lib.hid hg
  clear hg
  go_enter Try.func85, Try.ntmps85
  go_wp2
  go_loop [0, 9] (fun o i => ∃ (k : Nat) (g : Int), k ≤ n ∧ 0 ≤ g ∧ g ≤ 1000000000000 ∧ i = .int .i64 k ∧ o = .int .i64 g ∧ Hid (g = Plain.gc a r k)) (fun _ i => n - (intOf i).toNat)
  case atStart => exact ⟨0, a, by omega, by omega, by omega, rfl, rfl, rfl⟩
  case round =>
    obtain ⟨k, g, hk, hg, hg2, rfl, rfl, H⟩ := hrel
    have hlt : k < n := by
      by_cases e : k = n
      · subst e; have := H.out; have := HG.out; omega
      · omega
    obtain ⟨s1, s2, s3, s4⟩ := Plain.grow_step g r hg hg2 h1 h2
    have E := Lib.hid (Plain.gc_yes a r k (by rw [← H.out]; omega))
    by_cases hn : g + g * r / 1000 ≤ 1000000000000
    · go_wp2
      go_round
      case rel => exact ⟨k + 1, g + g * r / 1000, by omega, by omega, by omega, by go_num, rfl, by show _ = _; rw [E.out, ← H.out]⟩
      case measure => simp [intOf]; omega
    · go_wp2
      go_ret2
      exact ⟨rfl, rfl⟩

end Go.Proofs.Ytdafgpikgpobbaa.Interest
