/-
  Contracts of the texts of numbers, months and money of both packages.
  Conditions: the library's table of powers of ten reads as its text lays it (Tab).
-/
import Derived.Test.YtmngljpncglchaaDoorTexts
import Derived.Test.YtmngljpncglchaaDoorTextPlain
import Derived.Test.YtmngljpncglchaaDoorShelf
import Derived.Lib.AppendIntMem
namespace Go.Proofs.YtmngljpncglchaaDoor.Texts
open Go.RowKit Mem TextPlain
set_option linter.unusedVariables false

/-- The library's table reads as it should, whatever happens from block B on. -/
def Tab (B : Nat) (w : World) : Prop := B ≤ w.heap.size ∧ Lib.TabBelow Tryd.prog B w "internal/strconv.uint64pow10" .u64 Lib.pow10Tab
theorem Tab.below {B : Nat} {w w' : World} (h : Tab B w) (g : Below w.heap.size w w') : Tab B w' :=
  ⟨Nat.le_trans h.1 g.size, h.2.on (g.mono h.1)⟩

theorem decimal_any (n : Int) (B : Nat) (w : World) (hT : Tab B w) (h0 : -9223372036854775808 ≤ n) (h1 : n ≤ 9223372036854775807) :
    Calls Tryd.prog 69 #[.int .i64 n] w fun e w' => e = .returned (.string (S (Lib.itoa n))) ∧ Below w.heap.size w w' := by
  have C := Lib.hid (Tryd.strconv_FormatInt_10 n h0 h1 w hT.2.here)
  clear hT
  go_enter Tryd.func69, Tryd.ntmps69
  go_wp2_with fail
  refine C.out.mono ?_; rintro e w1 ⟨rfl, k, os, rfl⟩
  go_wp2
  go_ret
  exact ⟨rfl, Lib.below_grow _ _ (Nat.le_refl _) _ _⟩

theorem repeat_any (c : Nat) (w : World) (hc : c ≤ 1000) :
    Calls Tryd.prog 116 #[.string ⟨#[48]⟩, .int .i64 c] w fun e w' => e = .returned (.string (S (Lib.repeatL [48] c))) ∧ Below w.heap.size w w' :=
  Tryd.strings_Repeat ⟨#[48]⟩ c w (by omega) (by show 1 * c ≤ _; omega)

set_option maxRecDepth 100000 in
theorem digits_any (n : Int) (k : Nat) (B : Nat) (w : World) (hT : Tab B w) (h0 : -9223372036854775808 ≤ n) (h1 : n ≤ 9223372036854775807) (hk : k ≤ 100) :
    Calls Tryd.prog 70 #[.int .i64 n, .int .i64 k] w fun e w' => e = .returned (.string (S (pad n k))) ∧ Below w.heap.size w w' := by
  have C := Lib.hid (decimal_any n B w hT h0 h1)
  have hl := Lib.itoa_length_le n h0 h1
  have PD : Hid (pad n k = Lib.repeatL [48] (k - (Lib.itoa n).length) ++ Lib.itoa n) := rfl
  have hls := S_size (Lib.itoa n)
  have RP := Lib.hid (fun w => repeat_any (k - (Lib.itoa n).length) w (by omega))
  have AD := Lib.hid (add_str (S (Lib.repeatL [48] (k - (Lib.itoa n).length))) (S (Lib.itoa n)) _ _ rfl rfl (by rw [Lib.repeatL_length]; simp; omega))
  generalize pad n k = pd at *
  generalize Lib.itoa n = t at *
  have hm : (max 0 ((k : Int) - (t.length : Int))) = ((k - t.length : Nat) : Int) := by omega
  clear hT h0 h1
  go_enter Tryd.func70, Tryd.ntmps70
  go_wp2_with fail
  refine C.out.mono ?_; rintro e w1 ⟨rfl, hb⟩
  have HB := Lib.hid hb
  clear hb
  have AD2 := AD.out
  go_wp2_with fail
  refine (RP.out _).mono ?_; rintro e w2 ⟨rfl, hb⟩
  have HB2 := Lib.hid (bl HB.out hb)
  clear hb
  go_wp2
  go_ret
  exact ⟨Base.ret_string (by rw [PD.out]), HB2.out⟩

set_option maxRecDepth 100000 in
theorem implMonthText_yes (n : Int) (B : Nat) (w : World) (hT : Tab B w) (h0 : 0 ≤ n) (h1 : n ≤ 35999) :
    Calls Tryd.prog 26 #[.int .i64 n] w fun e w' => e = .returned (.string (S (monT n))) ∧ Below w.heap.size w w' := by
  have HT := Lib.hid hT
  have M : Hid (monT n = pad (n / 12) 4 ++ [45] ++ pad (n % 12 + 1) 2) := rfl
  have l1 := pad_length (n / 12) 4 (by omega) (by omega) (by omega)
  have l2 := pad_length (n % 12 + 1) 2 (by omega) (by omega) (by omega)
  have C1 := Lib.hid (fun w hT => digits_any (n / 12) 4 B w hT (by omega) (by omega) (by omega))
  have C2 := Lib.hid (fun w hT => digits_any (n % 12 + 1) 2 B w hT (by omega) (by omega) (by omega))
  generalize monT n = mt at *
  generalize pad (n / 12) 4 = p1 at *
  generalize pad (n % 12 + 1) 2 = p2 at *
  obtain ⟨z1, Z1, k1, A1⟩ := cat 200 (S p1) ⟨#[45]⟩ p1 [45] rfl rfl (by simp; omega) (by omega)
  obtain ⟨z2, Z2, k2, A2⟩ := cat 400 (S z1) (S p2) z1 p2 rfl rfl (by omega) (by omega)
  clear hT l1 l2 k1 k2
  go_enter Tryd.func26, Tryd.ntmps26
  go_wp2_with (first
      | (go_at_call 98; refine (Base.l01In_yes _ _ _ _ (by omega) (by omega)).mono ?_; rintro e w' ⟨rfl, rfl⟩)
      | (go_at_call 98; refine (Base.l01In_no _ _ _ _ (by omega)).mono ?_; rintro e w' ⟨rfl, rfl⟩)
      | (go_at_call 97; refine (Base.inRange_yes _ _ _ _ (by omega) (by omega)).mono ?_; rintro e w' ⟨rfl, rfl⟩)
      | (go_at_call 97; refine (Base.inRange_no _ _ _ _ (by omega)).mono ?_; rintro e w' ⟨rfl, rfl⟩)
      | (go_at_call 73; refine (Base.spec_l01Money_yes _ _ (by omega) (by omega)).mono ?_; rintro e w' ⟨rfl, rfl⟩)
      | (go_at_call 73; refine (Base.spec_l01Money_no _ _ (by omega)).mono ?_; rintro e w' ⟨rfl, rfl⟩)
      | (go_at_call 68; refine (Base.impl_isMoney_yes _ _ (by omega) (by omega)).mono ?_; rintro e w' ⟨rfl, rfl⟩)
      | (go_at_call 68; refine (Base.impl_isMoney_no _ _ (by omega)).mono ?_; rintro e w' ⟨rfl, rfl⟩)
      | (go_at_call 79; refine (Base.spec_l02Month_yes _ _ (by omega) (by omega)).mono ?_; rintro e w' ⟨rfl, rfl⟩)
      | (go_at_call 79; refine (Base.spec_l02Month_no _ _ (by omega)).mono ?_; rintro e w' ⟨rfl, rfl⟩)
      | (go_at_call 81; refine (Base.impl_isMonth_yes _ _ (by omega) (by omega)).mono ?_; rintro e w' ⟨rfl, rfl⟩)
      | (go_at_call 81; refine (Base.impl_isMonth_no _ _ (by omega)).mono ?_; rintro e w' ⟨rfl, rfl⟩)
     )
  refine (C1.out _ HT.out).mono ?_; rintro e w1 ⟨rfl, hb⟩
  have HB := Lib.hid hb
  have HT1 := Lib.hid (HT.out.below hb)
  clear hb
  go_wp2_with fail
  refine (C2.out _ HT1.out).mono ?_; rintro e w2 ⟨rfl, hb⟩
  have HB2 := Lib.hid (bl HB.out hb)
  clear hb
  go_wp2
  go_ret
  exact ⟨Base.ret_string (by rw [M.out, Z2.out, Z1.out]), HB2.out⟩

theorem implMonthText_no (n : Int) (w : World) (h : n < 0 ∨ 35999 < n) :
    Calls Tryd.prog 26 #[.int .i64 n] w fun e w' => e = .returned (.string (S [])) ∧ w = w' := by
  go_enter Tryd.func26, Tryd.ntmps26
  go_wp2_with (first
      | (go_at_call 98; refine (Base.l01In_yes _ _ _ _ (by omega) (by omega)).mono ?_; rintro e w' ⟨rfl, rfl⟩)
      | (go_at_call 98; refine (Base.l01In_no _ _ _ _ (by omega)).mono ?_; rintro e w' ⟨rfl, rfl⟩)
      | (go_at_call 97; refine (Base.inRange_yes _ _ _ _ (by omega) (by omega)).mono ?_; rintro e w' ⟨rfl, rfl⟩)
      | (go_at_call 97; refine (Base.inRange_no _ _ _ _ (by omega)).mono ?_; rintro e w' ⟨rfl, rfl⟩)
      | (go_at_call 73; refine (Base.spec_l01Money_yes _ _ (by omega) (by omega)).mono ?_; rintro e w' ⟨rfl, rfl⟩)
      | (go_at_call 73; refine (Base.spec_l01Money_no _ _ (by omega)).mono ?_; rintro e w' ⟨rfl, rfl⟩)
      | (go_at_call 68; refine (Base.impl_isMoney_yes _ _ (by omega) (by omega)).mono ?_; rintro e w' ⟨rfl, rfl⟩)
      | (go_at_call 68; refine (Base.impl_isMoney_no _ _ (by omega)).mono ?_; rintro e w' ⟨rfl, rfl⟩)
      | (go_at_call 79; refine (Base.spec_l02Month_yes _ _ (by omega) (by omega)).mono ?_; rintro e w' ⟨rfl, rfl⟩)
      | (go_at_call 79; refine (Base.spec_l02Month_no _ _ (by omega)).mono ?_; rintro e w' ⟨rfl, rfl⟩)
      | (go_at_call 81; refine (Base.impl_isMonth_yes _ _ (by omega) (by omega)).mono ?_; rintro e w' ⟨rfl, rfl⟩)
      | (go_at_call 81; refine (Base.impl_isMonth_no _ _ (by omega)).mono ?_; rintro e w' ⟨rfl, rfl⟩)
     )
  go_ret
  exact ⟨rfl, rfl⟩

set_option maxRecDepth 100000 in
set_option maxHeartbeats 1000000 in
theorem l02Text_any (n : Int) (w : World) (h0 : 0 ≤ n) (h1 : n ≤ 35999) :
    Calls Tryd.prog 80 #[.int .i64 n] w fun e w' => e = .returned (.string (S (monT n))) ∧ Below w.heap.size w w' := by
  have M := Lib.hid (mon_spec n h0 (by omega))
  have L := Lib.hid (fun (k : Int) (a : 0 ≤ k) (b : k ≤ 9223372036854775807) => Lib.itoa_length_le k (by omega) b)
  have l1 := L.out (n / 12 / 1000) (by omega) (by omega)
  have l2 := L.out (n / 12 / 100 % 10) (by omega) (by omega)
  have l3 := L.out (n / 12 / 10 % 10) (by omega) (by omega)
  have l4 := L.out (n / 12 % 10) (by omega) (by omega)
  have l5 := L.out ((n % 12 + 1) / 10) (by omega) (by omega)
  have l6 := L.out ((n % 12 + 1) % 10) (by omega) (by omega)
  have C1 := Lib.hid (fun w => dec (n / 12 / 1000) w (by omega) (by omega))
  have C2 := Lib.hid (fun w => dec (n / 12 / 100 % 10) w (by omega) (by omega))
  have C3 := Lib.hid (fun w => dec (n / 12 / 10 % 10) w (by omega) (by omega))
  have C4 := Lib.hid (fun w => dec (n / 12 % 10) w (by omega) (by omega))
  have C5 := Lib.hid (fun w => dec ((n % 12 + 1) / 10) w (by omega) (by omega))
  have C6 := Lib.hid (fun w => dec ((n % 12 + 1) % 10) w (by omega) (by omega))
  clear L
  generalize monT n = mt at *
  generalize Lib.itoa (n / 12 / 1000) = t1 at *
  generalize Lib.itoa (n / 12 / 100 % 10) = t2 at *
  generalize Lib.itoa (n / 12 / 10 % 10) = t3 at *
  generalize Lib.itoa (n / 12 % 10) = t4 at *
  generalize Lib.itoa ((n % 12 + 1) / 10) = t5 at *
  generalize Lib.itoa ((n % 12 + 1) % 10) = t6 at *
  obtain ⟨z1, Z1, k1, A1⟩ := cat 100 (S t1) (S t2) t1 t2 rfl rfl (by omega) (by omega)
  obtain ⟨z2, Z2, k2, A2⟩ := cat 200 (S z1) (S t3) z1 t3 rfl rfl (by omega) (by omega)
  obtain ⟨z3, Z3, k3, A3⟩ := cat 300 (S z2) (S t4) z2 t4 rfl rfl (by omega) (by omega)
  obtain ⟨z4, Z4, k4, A4⟩ := cat 400 (S z3) ⟨#[45]⟩ z3 [45] rfl rfl (by simp; omega) (by omega)
  obtain ⟨z5, Z5, k5, A5⟩ := cat 500 (S z4) (S t5) z4 t5 rfl rfl (by omega) (by omega)
  obtain ⟨z6, Z6, k6, A6⟩ := cat 600 (S z5) (S t6) z5 t6 rfl rfl (by omega) (by omega)
  clear l1 l2 l3 l4 l5 l6 k1 k2 k3 k4 k5 k6
  go_enter Tryd.func80, Tryd.ntmps80
  go_wp2_with fail
  refine (C1.out _).mono ?_; rintro e w1 ⟨rfl, hb⟩
  have HB := Lib.hid hb
  clear hb
  go_wp2_with fail
  refine (C2.out _).mono ?_; rintro e w2 ⟨rfl, hb⟩
  have HB := Lib.hid (bl HB.out hb)
  clear hb
  go_wp2_with fail
  refine (C3.out _).mono ?_; rintro e w3 ⟨rfl, hb⟩
  have HB := Lib.hid (bl HB.out hb)
  clear hb
  go_wp2_with fail
  refine (C4.out _).mono ?_; rintro e w4 ⟨rfl, hb⟩
  have HB := Lib.hid (bl HB.out hb)
  clear hb
  go_wp2_with fail
  refine (C5.out _).mono ?_; rintro e w5 ⟨rfl, hb⟩
  have HB := Lib.hid (bl HB.out hb)
  clear hb
  go_wp2_with fail
  refine (C6.out _).mono ?_; rintro e w6 ⟨rfl, hb⟩
  have HB := Lib.hid (bl HB.out hb)
  clear hb
  go_wp2
  go_ret
  exact ⟨Base.ret_string (by rw [← M.out, Z6.out, Z5.out, Z4.out, Z3.out, Z2.out, Z1.out]), HB.out⟩

theorem specMonthText_yes (n : Int) (w : World) (h0 : 0 ≤ n) (h1 : n ≤ 35999) :
    Calls Tryd.prog 25 #[.int .i64 n] w fun e w' => e = .returned (.string (S (monT n))) ∧ Below w.heap.size w w' := by
  have C := Lib.hid (l02Text_any n w h0 h1)
  go_enter Tryd.func25, Tryd.ntmps25
  go_wp2_with (first
      | (go_at_call 98; refine (Base.l01In_yes _ _ _ _ (by omega) (by omega)).mono ?_; rintro e w' ⟨rfl, rfl⟩)
      | (go_at_call 98; refine (Base.l01In_no _ _ _ _ (by omega)).mono ?_; rintro e w' ⟨rfl, rfl⟩)
      | (go_at_call 97; refine (Base.inRange_yes _ _ _ _ (by omega) (by omega)).mono ?_; rintro e w' ⟨rfl, rfl⟩)
      | (go_at_call 97; refine (Base.inRange_no _ _ _ _ (by omega)).mono ?_; rintro e w' ⟨rfl, rfl⟩)
      | (go_at_call 73; refine (Base.spec_l01Money_yes _ _ (by omega) (by omega)).mono ?_; rintro e w' ⟨rfl, rfl⟩)
      | (go_at_call 73; refine (Base.spec_l01Money_no _ _ (by omega)).mono ?_; rintro e w' ⟨rfl, rfl⟩)
      | (go_at_call 68; refine (Base.impl_isMoney_yes _ _ (by omega) (by omega)).mono ?_; rintro e w' ⟨rfl, rfl⟩)
      | (go_at_call 68; refine (Base.impl_isMoney_no _ _ (by omega)).mono ?_; rintro e w' ⟨rfl, rfl⟩)
      | (go_at_call 79; refine (Base.spec_l02Month_yes _ _ (by omega) (by omega)).mono ?_; rintro e w' ⟨rfl, rfl⟩)
      | (go_at_call 79; refine (Base.spec_l02Month_no _ _ (by omega)).mono ?_; rintro e w' ⟨rfl, rfl⟩)
      | (go_at_call 81; refine (Base.impl_isMonth_yes _ _ (by omega) (by omega)).mono ?_; rintro e w' ⟨rfl, rfl⟩)
      | (go_at_call 81; refine (Base.impl_isMonth_no _ _ (by omega)).mono ?_; rintro e w' ⟨rfl, rfl⟩)
     )
  refine C.out.mono ?_; rintro e w1 ⟨rfl, hb⟩
  go_wp2
  go_ret
  exact ⟨rfl, hb⟩
theorem specMonthText_no (n : Int) (w : World) (h : n < 0 ∨ 35999 < n) :
    Calls Tryd.prog 25 #[.int .i64 n] w fun e w' => e = .returned (.string (S [])) ∧ w = w' := by
  go_enter Tryd.func25, Tryd.ntmps25
  go_wp2_with (first
      | (go_at_call 98; refine (Base.l01In_yes _ _ _ _ (by omega) (by omega)).mono ?_; rintro e w' ⟨rfl, rfl⟩)
      | (go_at_call 98; refine (Base.l01In_no _ _ _ _ (by omega)).mono ?_; rintro e w' ⟨rfl, rfl⟩)
      | (go_at_call 97; refine (Base.inRange_yes _ _ _ _ (by omega) (by omega)).mono ?_; rintro e w' ⟨rfl, rfl⟩)
      | (go_at_call 97; refine (Base.inRange_no _ _ _ _ (by omega)).mono ?_; rintro e w' ⟨rfl, rfl⟩)
      | (go_at_call 73; refine (Base.spec_l01Money_yes _ _ (by omega) (by omega)).mono ?_; rintro e w' ⟨rfl, rfl⟩)
      | (go_at_call 73; refine (Base.spec_l01Money_no _ _ (by omega)).mono ?_; rintro e w' ⟨rfl, rfl⟩)
      | (go_at_call 68; refine (Base.impl_isMoney_yes _ _ (by omega) (by omega)).mono ?_; rintro e w' ⟨rfl, rfl⟩)
      | (go_at_call 68; refine (Base.impl_isMoney_no _ _ (by omega)).mono ?_; rintro e w' ⟨rfl, rfl⟩)
      | (go_at_call 79; refine (Base.spec_l02Month_yes _ _ (by omega) (by omega)).mono ?_; rintro e w' ⟨rfl, rfl⟩)
      | (go_at_call 79; refine (Base.spec_l02Month_no _ _ (by omega)).mono ?_; rintro e w' ⟨rfl, rfl⟩)
      | (go_at_call 81; refine (Base.impl_isMonth_yes _ _ (by omega) (by omega)).mono ?_; rintro e w' ⟨rfl, rfl⟩)
      | (go_at_call 81; refine (Base.impl_isMonth_no _ _ (by omega)).mono ?_; rintro e w' ⟨rfl, rfl⟩)
     )
  go_ret
  exact ⟨rfl, rfl⟩

set_option maxRecDepth 100000 in
set_option maxHeartbeats 1000000 in
theorem implMoneyText_yes (n : Int) (B : Nat) (w : World) (hT : Tab B w) (h0 : -1000000000000 ≤ n) (h1 : n ≤ 1000000000000) :
    Calls Tryd.prog 19 #[.int .i64 n] w fun e w' => e = .returned (.string (S (moneyT n))) ∧ Below w.heap.size w w' := by
  have HT := Lib.hid hT
  clear hT
  by_cases hn : n < 0
  · obtain ⟨m, rfl⟩ : ∃ m, n = -m := ⟨-n, by omega⟩
    have M : Hid (moneyT (-m) = [45] ++ (Lib.itoa (m / 100) ++ [46] ++ pad (m % 100) 2)) := by show _ = _; unfold moneyT; rw [if_pos hn, Int.neg_neg]; rfl
    have hm0 : 0 < m := by omega
    have hm1 : m ≤ 1000000000000 := by omega
    have l1 := Lib.itoa_length_le (m / 100) (by omega) (by omega)
    have l2 := pad_length (m % 100) 2 (by omega) (by omega) (by omega)
    have C1 := Lib.hid (fun w hT => decimal_any (m / 100) B w hT (by omega) (by omega))
    have C2 := Lib.hid (fun w hT => digits_any (m % 100) 2 B w hT (by omega) (by omega) (by omega))
    generalize moneyT (-m) = mt at *
    generalize Lib.itoa (m / 100) = t1 at *
    generalize pad (m % 100) 2 = t2 at *
    obtain ⟨z1, Z1, k1, A1⟩ := cat 100 ⟨#[45]⟩ (S t1) [45] t1 rfl rfl (by simp; omega) (by omega)
    obtain ⟨z2, Z2, k2, A2⟩ := cat 200 (S z1) ⟨#[46]⟩ z1 [46] rfl rfl (by simp; omega) (by omega)
    obtain ⟨z3, Z3, k3, A3⟩ := cat 400 (S z2) (S t2) z2 t2 rfl rfl (by omega) (by omega)
    clear l1 l2 k1 k2 k3
    go_enter Tryd.func19, Tryd.ntmps19
    go_wp2_with (first
      | (go_at_call 98; refine (Base.l01In_yes _ _ _ _ (by omega) (by omega)).mono ?_; rintro e w' ⟨rfl, rfl⟩)
      | (go_at_call 98; refine (Base.l01In_no _ _ _ _ (by omega)).mono ?_; rintro e w' ⟨rfl, rfl⟩)
      | (go_at_call 97; refine (Base.inRange_yes _ _ _ _ (by omega) (by omega)).mono ?_; rintro e w' ⟨rfl, rfl⟩)
      | (go_at_call 97; refine (Base.inRange_no _ _ _ _ (by omega)).mono ?_; rintro e w' ⟨rfl, rfl⟩)
      | (go_at_call 73; refine (Base.spec_l01Money_yes _ _ (by omega) (by omega)).mono ?_; rintro e w' ⟨rfl, rfl⟩)
      | (go_at_call 73; refine (Base.spec_l01Money_no _ _ (by omega)).mono ?_; rintro e w' ⟨rfl, rfl⟩)
      | (go_at_call 68; refine (Base.impl_isMoney_yes _ _ (by omega) (by omega)).mono ?_; rintro e w' ⟨rfl, rfl⟩)
      | (go_at_call 68; refine (Base.impl_isMoney_no _ _ (by omega)).mono ?_; rintro e w' ⟨rfl, rfl⟩)
      | (go_at_call 79; refine (Base.spec_l02Month_yes _ _ (by omega) (by omega)).mono ?_; rintro e w' ⟨rfl, rfl⟩)
      | (go_at_call 79; refine (Base.spec_l02Month_no _ _ (by omega)).mono ?_; rintro e w' ⟨rfl, rfl⟩)
      | (go_at_call 81; refine (Base.impl_isMonth_yes _ _ (by omega) (by omega)).mono ?_; rintro e w' ⟨rfl, rfl⟩)
      | (go_at_call 81; refine (Base.impl_isMonth_no _ _ (by omega)).mono ?_; rintro e w' ⟨rfl, rfl⟩)
     )
    refine (C1.out _ HT.out).mono ?_; rintro e w1 ⟨rfl, hb⟩
    have HB := Lib.hid hb
    have HT1 := Lib.hid (HT.out.below hb)
    clear hb
    go_wp2_with fail
    refine (C2.out _ HT1.out).mono ?_; rintro e w2 ⟨rfl, hb⟩
    have HB2 := Lib.hid (bl HB.out hb)
    clear hb
    go_wp2
    go_ret
    exact ⟨Base.ret_string (by rw [M.out, Z3.out, Z2.out, Z1.out]; simp), HB2.out⟩
  · have M : Hid (moneyT n = Lib.itoa (n / 100) ++ [46] ++ pad (n % 100) 2) := by show _ = _; unfold moneyT; rw [if_neg hn]; rfl
    have hn' : 0 ≤ n := by omega
    have l1 := Lib.itoa_length_le (n / 100) (by omega) (by omega)
    have l2 := pad_length (n % 100) 2 (by omega) (by omega) (by omega)
    have C1 := Lib.hid (fun w hT => decimal_any (n / 100) B w hT (by omega) (by omega))
    have C2 := Lib.hid (fun w hT => digits_any (n % 100) 2 B w hT (by omega) (by omega) (by omega))
    clear hn
    generalize moneyT n = mt at *
    generalize Lib.itoa (n / 100) = t1 at *
    generalize pad (n % 100) 2 = t2 at *
    obtain ⟨z1, Z1, k1, A1⟩ := cat 100 ⟨#[]⟩ (S t1) [] t1 rfl rfl (by simp; omega) (by omega)
    obtain ⟨z2, Z2, k2, A2⟩ := cat 200 (S z1) ⟨#[46]⟩ z1 [46] rfl rfl (by simp; omega) (by omega)
    obtain ⟨z3, Z3, k3, A3⟩ := cat 400 (S z2) (S t2) z2 t2 rfl rfl (by omega) (by omega)
    clear l1 l2 k1 k2 k3
    go_enter Tryd.func19, Tryd.ntmps19
    go_wp2_with (first
      | (go_at_call 98; refine (Base.l01In_yes _ _ _ _ (by omega) (by omega)).mono ?_; rintro e w' ⟨rfl, rfl⟩)
      | (go_at_call 98; refine (Base.l01In_no _ _ _ _ (by omega)).mono ?_; rintro e w' ⟨rfl, rfl⟩)
      | (go_at_call 97; refine (Base.inRange_yes _ _ _ _ (by omega) (by omega)).mono ?_; rintro e w' ⟨rfl, rfl⟩)
      | (go_at_call 97; refine (Base.inRange_no _ _ _ _ (by omega)).mono ?_; rintro e w' ⟨rfl, rfl⟩)
      | (go_at_call 73; refine (Base.spec_l01Money_yes _ _ (by omega) (by omega)).mono ?_; rintro e w' ⟨rfl, rfl⟩)
      | (go_at_call 73; refine (Base.spec_l01Money_no _ _ (by omega)).mono ?_; rintro e w' ⟨rfl, rfl⟩)
      | (go_at_call 68; refine (Base.impl_isMoney_yes _ _ (by omega) (by omega)).mono ?_; rintro e w' ⟨rfl, rfl⟩)
      | (go_at_call 68; refine (Base.impl_isMoney_no _ _ (by omega)).mono ?_; rintro e w' ⟨rfl, rfl⟩)
      | (go_at_call 79; refine (Base.spec_l02Month_yes _ _ (by omega) (by omega)).mono ?_; rintro e w' ⟨rfl, rfl⟩)
      | (go_at_call 79; refine (Base.spec_l02Month_no _ _ (by omega)).mono ?_; rintro e w' ⟨rfl, rfl⟩)
      | (go_at_call 81; refine (Base.impl_isMonth_yes _ _ (by omega) (by omega)).mono ?_; rintro e w' ⟨rfl, rfl⟩)
      | (go_at_call 81; refine (Base.impl_isMonth_no _ _ (by omega)).mono ?_; rintro e w' ⟨rfl, rfl⟩)
     )
    refine (C1.out _ HT.out).mono ?_; rintro e w1 ⟨rfl, hb⟩
    have HB := Lib.hid hb
    have HT1 := Lib.hid (HT.out.below hb)
    clear hb
    go_wp2_with fail
    refine (C2.out _ HT1.out).mono ?_; rintro e w2 ⟨rfl, hb⟩
    have HB2 := Lib.hid (bl HB.out hb)
    clear hb
    go_wp2
    go_ret
    exact ⟨Base.ret_string (by rw [M.out, Z3.out, Z2.out, Z1.out]; simp), HB2.out⟩

theorem implMoneyText_no (n : Int) (w : World) (h : n < -1000000000000 ∨ 1000000000000 < n) :
    Calls Tryd.prog 19 #[.int .i64 n] w fun e w' => e = .returned (.string (S [])) ∧ w = w' := by
  go_enter Tryd.func19, Tryd.ntmps19
  go_wp2_with (first
      | (go_at_call 98; refine (Base.l01In_yes _ _ _ _ (by omega) (by omega)).mono ?_; rintro e w' ⟨rfl, rfl⟩)
      | (go_at_call 98; refine (Base.l01In_no _ _ _ _ (by omega)).mono ?_; rintro e w' ⟨rfl, rfl⟩)
      | (go_at_call 97; refine (Base.inRange_yes _ _ _ _ (by omega) (by omega)).mono ?_; rintro e w' ⟨rfl, rfl⟩)
      | (go_at_call 97; refine (Base.inRange_no _ _ _ _ (by omega)).mono ?_; rintro e w' ⟨rfl, rfl⟩)
      | (go_at_call 73; refine (Base.spec_l01Money_yes _ _ (by omega) (by omega)).mono ?_; rintro e w' ⟨rfl, rfl⟩)
      | (go_at_call 73; refine (Base.spec_l01Money_no _ _ (by omega)).mono ?_; rintro e w' ⟨rfl, rfl⟩)
      | (go_at_call 68; refine (Base.impl_isMoney_yes _ _ (by omega) (by omega)).mono ?_; rintro e w' ⟨rfl, rfl⟩)
      | (go_at_call 68; refine (Base.impl_isMoney_no _ _ (by omega)).mono ?_; rintro e w' ⟨rfl, rfl⟩)
      | (go_at_call 79; refine (Base.spec_l02Month_yes _ _ (by omega) (by omega)).mono ?_; rintro e w' ⟨rfl, rfl⟩)
      | (go_at_call 79; refine (Base.spec_l02Month_no _ _ (by omega)).mono ?_; rintro e w' ⟨rfl, rfl⟩)
      | (go_at_call 81; refine (Base.impl_isMonth_yes _ _ (by omega) (by omega)).mono ?_; rintro e w' ⟨rfl, rfl⟩)
      | (go_at_call 81; refine (Base.impl_isMonth_no _ _ (by omega)).mono ?_; rintro e w' ⟨rfl, rfl⟩)
     )
  go_ret
  exact ⟨rfl, rfl⟩

set_option maxRecDepth 100000 in
set_option maxHeartbeats 1000000 in
theorem l01Text_pos (n : Int) (w : World) (h0 : 0 ≤ n) (h1 : n ≤ 1000000000000) :
    Calls Tryd.prog 78 #[.int .i64 n] w fun e w' => e = .returned (.string (S (posT n))) ∧ Below w.heap.size w w' := by
  have M := Lib.hid (pos_spec n h0)
  have l1 := Lib.itoa_length_le (n / 100) (by omega) (by omega)
  have l2 := Lib.itoa_length_le (n / 10 % 10) (by omega) (by omega)
  have l3 := Lib.itoa_length_le (n % 10) (by omega) (by omega)
  have C1 := Lib.hid (fun w => dec (n / 100) w (by omega) (by omega))
  have C2 := Lib.hid (fun w => dec (n / 10 % 10) w (by omega) (by omega))
  have C3 := Lib.hid (fun w => dec (n % 10) w (by omega) (by omega))
  generalize posT n = mt at *
  generalize Lib.itoa (n / 100) = t1 at *
  generalize Lib.itoa (n / 10 % 10) = t2 at *
  generalize Lib.itoa (n % 10) = t3 at *
  obtain ⟨z1, Z1, k1, A1⟩ := cat 100 (S t1) ⟨#[46]⟩ t1 [46] rfl rfl (by simp; omega) (by omega)
  obtain ⟨z2, Z2, k2, A2⟩ := cat 200 (S z1) (S t2) z1 t2 rfl rfl (by omega) (by omega)
  obtain ⟨z3, Z3, k3, A3⟩ := cat 400 (S z2) (S t3) z2 t3 rfl rfl (by omega) (by omega)
  clear l1 l2 l3 k1 k2 k3
  go_enter Tryd.func78, Tryd.ntmps78
  go_wp2_with fail
  refine (C1.out _).mono ?_; rintro e w1 ⟨rfl, hb⟩
  have HB := Lib.hid hb
  clear hb
  go_wp2_with fail
  refine (C2.out _).mono ?_; rintro e w2 ⟨rfl, hb⟩
  have HB := Lib.hid (bl HB.out hb)
  clear hb
  go_wp2_with fail
  refine (C3.out _).mono ?_; rintro e w3 ⟨rfl, hb⟩
  have HB := Lib.hid (bl HB.out hb)
  clear hb
  go_wp2
  go_ret
  exact ⟨Base.ret_string (by rw [← M.out, Z3.out, Z2.out, Z1.out]), HB.out⟩

set_option maxRecDepth 100000 in
theorem specMoneyText_yes (n : Int) (w : World) (h0 : -1000000000000 ≤ n) (h1 : n ≤ 1000000000000) :
    Calls Tryd.prog 24 #[.int .i64 n] w fun e w' => e = .returned (.string (S (moneyT n))) ∧ Below w.heap.size w w' := by
  have C : Hid (Calls Tryd.prog 78 #[.int .i64 n] w fun e w' => e = .returned (.string (S (moneyT n))) ∧ Below w.heap.size w w') := by
    by_cases hn : n < 0
    · obtain ⟨m, rfl⟩ : ∃ m, n = -m := ⟨-n, by omega⟩
      have M : Hid (moneyT (-m) = [45] ++ posT m) := by show _ = _; unfold moneyT; rw [if_pos hn, Int.neg_neg]
      have hm0 : 0 < m := by omega
      have hm1 : m ≤ 1000000000000 := by omega
      have C1 := Lib.hid (fun w => l01Text_pos m w (by omega) (by omega))
      have l1 : (posT m).length ≤ 200 := by
        unfold posT
        have a1 := Lib.itoa_length_le (m / 100) (by omega) (by omega)
        have a2 := pad_length (m % 100) 2 (by omega) (by omega) (by omega)
        simp; omega
      generalize posT m = t1 at *
      generalize moneyT (-m) = mt at *
      obtain ⟨z1, Z1, k1, A1⟩ := cat 300 ⟨#[45]⟩ (S t1) [45] t1 rfl rfl (by simp; omega) (by omega)
      clear l1 k1
      show Calls _ _ _ _ _
      go_enter Tryd.func78, Tryd.ntmps78
      go_wp2_with fail
      refine (C1.out _).mono ?_; rintro e w1 ⟨rfl, hb⟩
      go_wp2
      go_ret
      exact ⟨Base.ret_string (by rw [M.out, Z1.out]), hb⟩
    · have M : moneyT n = posT n := by unfold moneyT; rw [if_neg hn]
      show Calls _ _ _ _ _
      rw [M]
      exact l01Text_pos n w (by omega) h1
  go_enter Tryd.func24, Tryd.ntmps24
  go_wp2_with (first
      | (go_at_call 98; refine (Base.l01In_yes _ _ _ _ (by omega) (by omega)).mono ?_; rintro e w' ⟨rfl, rfl⟩)
      | (go_at_call 98; refine (Base.l01In_no _ _ _ _ (by omega)).mono ?_; rintro e w' ⟨rfl, rfl⟩)
      | (go_at_call 97; refine (Base.inRange_yes _ _ _ _ (by omega) (by omega)).mono ?_; rintro e w' ⟨rfl, rfl⟩)
      | (go_at_call 97; refine (Base.inRange_no _ _ _ _ (by omega)).mono ?_; rintro e w' ⟨rfl, rfl⟩)
      | (go_at_call 73; refine (Base.spec_l01Money_yes _ _ (by omega) (by omega)).mono ?_; rintro e w' ⟨rfl, rfl⟩)
      | (go_at_call 73; refine (Base.spec_l01Money_no _ _ (by omega)).mono ?_; rintro e w' ⟨rfl, rfl⟩)
      | (go_at_call 68; refine (Base.impl_isMoney_yes _ _ (by omega) (by omega)).mono ?_; rintro e w' ⟨rfl, rfl⟩)
      | (go_at_call 68; refine (Base.impl_isMoney_no _ _ (by omega)).mono ?_; rintro e w' ⟨rfl, rfl⟩)
      | (go_at_call 79; refine (Base.spec_l02Month_yes _ _ (by omega) (by omega)).mono ?_; rintro e w' ⟨rfl, rfl⟩)
      | (go_at_call 79; refine (Base.spec_l02Month_no _ _ (by omega)).mono ?_; rintro e w' ⟨rfl, rfl⟩)
      | (go_at_call 81; refine (Base.impl_isMonth_yes _ _ (by omega) (by omega)).mono ?_; rintro e w' ⟨rfl, rfl⟩)
      | (go_at_call 81; refine (Base.impl_isMonth_no _ _ (by omega)).mono ?_; rintro e w' ⟨rfl, rfl⟩)
     )
  refine C.out.mono ?_; rintro e w1 ⟨rfl, hb⟩
  go_wp2
  go_ret
  exact ⟨rfl, hb⟩
theorem specMoneyText_no (n : Int) (w : World) (h : n < -1000000000000 ∨ 1000000000000 < n) :
    Calls Tryd.prog 24 #[.int .i64 n] w fun e w' => e = .returned (.string (S [])) ∧ w = w' := by
  go_enter Tryd.func24, Tryd.ntmps24
  go_wp2_with (first
      | (go_at_call 98; refine (Base.l01In_yes _ _ _ _ (by omega) (by omega)).mono ?_; rintro e w' ⟨rfl, rfl⟩)
      | (go_at_call 98; refine (Base.l01In_no _ _ _ _ (by omega)).mono ?_; rintro e w' ⟨rfl, rfl⟩)
      | (go_at_call 97; refine (Base.inRange_yes _ _ _ _ (by omega) (by omega)).mono ?_; rintro e w' ⟨rfl, rfl⟩)
      | (go_at_call 97; refine (Base.inRange_no _ _ _ _ (by omega)).mono ?_; rintro e w' ⟨rfl, rfl⟩)
      | (go_at_call 73; refine (Base.spec_l01Money_yes _ _ (by omega) (by omega)).mono ?_; rintro e w' ⟨rfl, rfl⟩)
      | (go_at_call 73; refine (Base.spec_l01Money_no _ _ (by omega)).mono ?_; rintro e w' ⟨rfl, rfl⟩)
      | (go_at_call 68; refine (Base.impl_isMoney_yes _ _ (by omega) (by omega)).mono ?_; rintro e w' ⟨rfl, rfl⟩)
      | (go_at_call 68; refine (Base.impl_isMoney_no _ _ (by omega)).mono ?_; rintro e w' ⟨rfl, rfl⟩)
      | (go_at_call 79; refine (Base.spec_l02Month_yes _ _ (by omega) (by omega)).mono ?_; rintro e w' ⟨rfl, rfl⟩)
      | (go_at_call 79; refine (Base.spec_l02Month_no _ _ (by omega)).mono ?_; rintro e w' ⟨rfl, rfl⟩)
      | (go_at_call 81; refine (Base.impl_isMonth_yes _ _ (by omega) (by omega)).mono ?_; rintro e w' ⟨rfl, rfl⟩)
      | (go_at_call 81; refine (Base.impl_isMonth_no _ _ (by omega)).mono ?_; rintro e w' ⟨rfl, rfl⟩)
     )
  go_ret
  exact ⟨rfl, rfl⟩

end Go.Proofs.YtmngljpncglchaaDoor.Texts
