/-
  Contract of the reference's draw of a list for sums.
  Conditions: the code has at most 4096 bytes.
-/
import Derived.Test.YtmngljpncglchaaDoorDraws3
import Derived.Test.YtmngljpncglchaaDoorDraws4
namespace Go.Proofs.YtmngljpncglchaaDoor.Draws
open Go.RowKit Mem
set_option linter.unusedVariables false

set_option maxHeartbeats 1000000 in
set_option maxRecDepth 1000000 in
theorem drawSumOf (a : Option Addr) (len cap : Nat) (zs : List Int) (w : World) (h : IsRow .u8 w a len cap zs) (hl : len ≤ 4096) :
    Calls Tryd.prog 21 #[.slice a len cap] w (ListOne w) := by
  obtain ⟨i0, hi, hz0, hz1, hz2⟩ := info_parts infoD
  go_enter Tryd.func21, Tryd.ntmps21
  go_wp2_with fail
  refine (from_any a len cap zs w h hl).mono ?_; rintro e w1 ⟨p, rfl, hp, hs, hb⟩
  have HP := Lib.hid hp
  have hpB := hs.lt
  have HPB := Lib.hid hpB
  have HB := Lib.hid hb
  have HS := Lib.hid hs
  clear h hp hb hs hpB
  go_wp2_with fail
  refine (next_lit _ _ _ (HS.out.below (b0 _ _)) (by omega) (by omega)).mono ?_; rintro e w2 ⟨n0, rfl, n1, n2, hs, hg⟩
  have HS2 := Lib.hid hs
  have HB2 := Lib.hid (grown_below (HB.out.alloc HB.out.size _) HP.out (Nat.le_trans HB.out.size (by simp)) hg)
  have HO2 := Lib.hid (own_keep (World.ownsRow_made (e := 2) (size := 1) w1 #[] 0 (Nat.le_refl _) (by unfold maxLen; omega) rfl) HPB.out hg)
  have HZ2 := Lib.hid (Nat.le_trans (show w1.heap.size ≤ (w1.alloc (.cells #[] 2)).heap.size by simp) hg.size)
  clear hs hg
  go_wp2_with fail
  go_loopw [4, 5] (fun o n wr => ∃ (k : Nat) (m : Int) (ao : Option Addr) (c : Nat), o = .slice ao k c ∧ n = .int .i64 m ∧ 0 ≤ m ∧ m + k ≤ 12 ∧ Hid (Building w1.heap.size p wr (.slice ao k c) k) ∧ Hid (Below w.heap.size w wr)) (fun _ n _ => (intOf n).toNat)
  case atStart => exact ⟨0, n0, _, _, rfl, rfl, n1, by omega, ⟨[], HO2.out, (fun _ h => by cases h), HS2.out, HZ2.out⟩, HB2.out⟩
  case round =>
    obtain ⟨k, m, ao, c, rfl, rfl, m0, m1, HBu, HBr⟩ := hrel
    obtain ⟨ys, hown, hall, hs, hz⟩ := HBu.out
    have HO := Lib.hid hown
    have HA := Lib.hid hall
    have HZ := Lib.hid hz
    have HS := Lib.hid hs
    have HG := Lib.hid (grown_refl wr (some p))
    clear hown hall hs hz
    by_cases hm : 0 < m
    · go_wp2_with fail
      refine (money_any _ _ HS.out).mono ?_; rintro e w3 ⟨x, rfl, x0, hs, hg⟩
      have HS3 := Lib.hid hs
      have HG3 := Lib.hid hg
      have X0 := Lib.hid x0
      unfold I64 at x0
      obtain ⟨x1, x2⟩ := x0
      clear hs hg
      by_cases hmon : -1000000000000 ≤ x ∧ x ≤ 1000000000000
      · obtain ⟨e1, e2⟩ := hmon
        go_wp2_with (first | (go_at_call 73; refine (Base.spec_l01Money_yes _ _ e1 e2).mono ?_; rintro e w' ⟨rfl, rfl⟩) | (at_builtin; refine wpList_append_own _ rfl _ _ 30 rfl w1.heap.size 2 i0 (.int .i64 0) 1 8 Tryd.underlying30 hi hz0 hz1 hz2 rfl (by decide) _ _ _ rfl ((own_keep HO.out HPB.out HG3.out).alloc _) ⟨w3.heap.size, 0, none⟩ 1 1 [.int .i64 x] rfl rfl (by intro j u hj; match j, hj with | 0, hj => simp at hj; subst hj; simp [Addr.add]) (by intro u hu; simp at hu; subst hu; rfl) (by unfold maxLen; omega) (by omega) (by have := HG3.out.size; have := HZ.out; simp; omega) ?_; intro v' w9 hown' hgrow hnil'))
        have HB9 := Lib.hid (app_draw (grown_below HBr.out HP.out (Nat.le_trans HB.out.size HZ.out) HG3.out) HB.out.size (Nat.le_trans HZ.out HG3.out.size) HPB.out HS3.out (own_keep HO.out HPB.out HG3.out) hgrow)
        obtain ⟨ao', c', rfl⟩ := own_shape hown'
        have HO9 := Lib.hid hown'
        have HX := Lib.hid (all_snoc HA.out X0.out)
        clear hown' hgrow hnil'
        go_wp2
        go_roundw
        case rel => exact ⟨k + 1, m - 1, ao', c', rfl, rfl, by omega, by omega, ⟨_, by rw [List.map_append]; exact HO9.out, HX.out, HB9.out.2.2, HB9.out.2.1⟩, HB9.out.1⟩
        case measure => simp [intOf]; omega
      · have e1 : x < -1000000000000 ∨ 1000000000000 < x := by omega
        clear hmon
        go_wp2_with fail
        refine (Base.spec_l01Money_no _ _ e1).mono ?_; rintro e w' ⟨rfl, rfl⟩
        go_wp2_with fail
        refine (next_lit _ 4 _ HS3.out (by omega) (by omega)).mono ?_; rintro e w4 ⟨d, rfl, d0, d1, hs, hg⟩
        have HS4 := Lib.hid hs
        have HG4 := Lib.hid (grown_trans HG3.out hg)
        clear hs hg
        by_cases hd : d = 0
        · subst hd
          go_wp2_with (at_builtin; refine wpList_append_own _ rfl _ _ 30 rfl w1.heap.size 2 i0 (.int .i64 0) 1 8 Tryd.underlying30 hi hz0 hz1 hz2 rfl (by decide) _ _ _ rfl ((own_keep HO.out HPB.out HG4.out).alloc _) ⟨w4.heap.size, 0, none⟩ 1 1 [.int .i64 x] rfl rfl (by intro j u hj; match j, hj with | 0, hj => simp at hj; subst hj; simp [Addr.add]) (by intro u hu; simp at hu; subst hu; rfl) (by unfold maxLen; omega) (by omega) (by have := HG4.out.size; have := HZ.out; simp; omega) ?_; intro v' w9 hown' hgrow hnil')
          have HB9 := Lib.hid (app_draw (grown_below HBr.out HP.out (Nat.le_trans HB.out.size HZ.out) HG4.out) HB.out.size (Nat.le_trans HZ.out HG4.out.size) HPB.out HS4.out (own_keep HO.out HPB.out HG4.out) hgrow)
          obtain ⟨ao', c', rfl⟩ := own_shape hown'
          have HO9 := Lib.hid hown'
          have HX := Lib.hid (all_snoc HA.out X0.out)
          clear hown' hgrow hnil'
          go_wp2
          go_roundw
          case rel => exact ⟨k + 1, m - 1, ao', c', rfl, rfl, by omega, by omega, ⟨_, by rw [List.map_append]; exact HO9.out, HX.out, HB9.out.2.2, HB9.out.2.1⟩, HB9.out.1⟩
          case measure => simp [intOf]; omega
        · have hd2 : (d == 0) = false := beq_eq_false_iff_ne.2 hd
          have HW4 := Lib.hid (grown_below HBr.out HP.out (Nat.le_trans HB.out.size HZ.out) HG4.out)
          go_wp2
          go_roundw
          case rel => exact ⟨k, m - 1, ao, c, rfl, rfl, by omega, by omega, ⟨ys, own_keep HO.out HPB.out HG4.out, HA.out, HS4.out, Nat.le_trans HZ.out HG4.out.size⟩, HW4.out⟩
          case measure => simp [intOf]; omega
    · have hm' : m ≤ 0 := by omega
      clear hm
      have hk12 : k ≤ 12 := by omega
      go_wp2_with fail
      refine (next_lit _ 30 _ HS.out (by omega) (by omega)).mono ?_; rintro e w2 ⟨s0, rfl, s1, s2, hs, hg⟩
      have HS5 := Lib.hid hs
      have HG5 := Lib.hid hg
      clear hs hg
      by_cases q0 : s0 = 0
      · subst q0
        go_wp2_with fail
        refine (next_lit _ 2 _ HS5.out (by omega) (by omega)).mono ?_; rintro e w' ⟨x, rfl, x0, x1, hs, hg⟩
        have HS6 := Lib.hid hs
        have HG6 := Lib.hid (grown_trans HG5.out hg)
        clear hs hg
        obtain ⟨j, rfl⟩ : ∃ j : Nat, x = j := ⟨x.toNat, by omega⟩
        go_wp2_with (at_make; refine wpList_make_full _ rfl _ _ 30 rfl w1.heap.size 2 i0 (.int .i64 0) 1 Tryd.underlying30 hi hz0 hz1 _ _ _ _ (130 + j) rfl rfl (by omega) (by omega) (by rw [hz2]; omega) (by unfold maxLen; omega) (Nat.le_trans HZ.out HG6.out.size) ?_; intro w9 hown' hgrow)
        have HB9 := Lib.hid ((grown_below HBr.out HP.out (Nat.le_trans HB.out.size HZ.out) HG6.out).grown hgrow (Nat.le_trans HB.out.size (Nat.le_trans HZ.out HG6.out.size)) (fun k hk => by cases hk))
        have HO9 := Lib.hid hown'
        clear hown' hgrow
        go_wp2
        go_ret
        refine ⟨_, List.replicate (130 + j) 0, rfl, ?_, by simp; omega, all_zero _, HB9.out⟩
        have := sl_of_own (w := w9) (B := w1.heap.size) (n := 130 + j) (v := _) (xs := List.replicate (130 + j) 0) (by
          rw [List.map_replicate]
          have := HO9.out
          rw [Nat.mul_one, show (Value.int .i64 0).cells = #[Value.int .i64 0] from rfl, toList_madeCells_one] at this
          exact this) (by simp; omega)
        have := this.rd
        simpa using this
      · have q0' : (s0 == 0) = false := beq_eq_false_iff_ne.2 q0
        have HW := Lib.hid (grown_below HBr.out HP.out (Nat.le_trans HB.out.size HZ.out) HG5.out)
        have HO5 := Lib.hid (own_keep HO.out HPB.out HG5.out)
        go_wp2
        go_ret
        have hl : ys.length = k := by have := HO.out.1; rw [List.length_map] at this; omega
        exact ⟨_, ys, rfl, (sl_of_own (B := w1.heap.size) (n := k) HO5.out (by omega)).rd, by omega, HA.out, HW.out⟩
end Go.Proofs.YtmngljpncglchaaDoor.Draws
