/-
  Proved: the card of the law FnMonths: it returns true, for every input.
  Conditions: none: the given statement Rows.FnMonthsSaid, as it stands.
-/
import Derived.Test.YtmngljpncglchaaDoorCards
import Derived.Test.YtmngljpncglchaaDoorTie
import Derived.Deep.DeepHandedRow
import Derived.SevenTiedAt
import Derived.LaidMore
import Derived.Lay
import Derived.Deep.DeepWitnessRowRef
import Derived.WalkKit
import Derived.ProofKit
import Derived.OpenShut
import Derived.ShutString
import Derived.ChangeOld
import Derived.Below
import Derived.IntWalk
import Derived.Test.YtmngljpncglchaaDoorLaidTabs
import Derived.Test.YtmngljpncglchaaDoorDraws8
import Derived.Test.YtmngljpncglchaaDoorMonths
namespace Go.Proofs.YtmngljpncglchaaDoor.fnMonths
open Go.ChangeShapes Go.WideShapes Go.ChangeAt Go.RowKit
open Go.ChangeMaps (open_string shut_string)
set_option linter.unusedVariables false

theorem own : ownKnob Tryd.prog.godebug = none := by kernel_rfl
theorem laidOut : laidOutB Tryd.prog = true := by kernel_rfl

open Mem Texts
-- the witness lies in World.laidAll

theorem specMonthOf_any (y m : Int) (w : World) : Calls Tryd.prog 49 #[.int .i64 y, .int .i64 m] w fun e w' => e = .returned (.tuple #[.int .i64 (MonthReads.mofV y m), .int .i64 (MonthReads.mofC y m)]) ∧ w = w' := by
  by_cases hy : 0 ≤ y ∧ y ≤ 2999
  · obtain ⟨y0, y1⟩ := hy
    by_cases hm : 1 ≤ m ∧ m ≤ 12
    · obtain ⟨m0, m1⟩ := hm
      have V : Hid (MonthReads.mofV y m = 12 * y + m - 1) := by show _ = _; unfold MonthReads.mofV; rw [if_pos ⟨y0, y1, m0, m1⟩]
      have C : Hid (MonthReads.mofC y m = 0) := by show _ = _; unfold MonthReads.mofC; rw [if_pos ⟨y0, y1, m0, m1⟩]
      go_enter Tryd.func49, Tryd.ntmps49
      go_wp2_with (first
      | (go_at_call 98; refine (Base.l01In_yes _ _ _ _ (by omega) (by omega)).mono ?_; rintro e w' ⟨rfl, rfl⟩)
      | (go_at_call 98; refine (Base.l01In_no _ _ _ _ (by omega)).mono ?_; rintro e w' ⟨rfl, rfl⟩)
      | (go_at_call 97; refine (Base.inRange_yes _ _ _ _ (by omega) (by omega)).mono ?_; rintro e w' ⟨rfl, rfl⟩)
      | (go_at_call 97; refine (Base.inRange_no _ _ _ _ (by omega)).mono ?_; rintro e w' ⟨rfl, rfl⟩)
      | (go_at_call 73; refine (Base.spec_l01Money_yes _ _ (by omega) (by omega)).mono ?_; rintro e w' ⟨rfl, rfl⟩)
      | (go_at_call 73; refine (Base.spec_l01Money_no _ _ (by omega)).mono ?_; rintro e w' ⟨rfl, rfl⟩)
      | (go_at_call 68; refine (Base.impl_isMoney_yes _ _ (by omega) (by omega)).mono ?_; rintro e w' ⟨rfl, rfl⟩)
      | (go_at_call 68; refine (Base.impl_isMoney_no _ _ (by omega)).mono ?_; rintro e w' ⟨rfl, rfl⟩)
      | (go_at_call 79; refine (Base.spec_l02Month_yes _ _ (by omega) (by omega)).mono ?_; rintro e w' ⟨rfl, rfl⟩)
      | (go_at_call 79; refine (Base.spec_l02Month_no _ _ (by omega)).mono ?_; rintro e w' ⟨rfl, rfl⟩)
      | (go_at_call 81; refine (Base.impl_isMonth_yes _ _ (by omega) (by omega)).mono ?_; rintro e w' ⟨rfl, rfl⟩)
      | (go_at_call 81; refine (Base.impl_isMonth_no _ _ (by omega)).mono ?_; rintro e w' ⟨rfl, rfl⟩)
     )
      go_ret2
      exact ⟨by rw [V.out, C.out]; rfl, rfl⟩
    · have V : Hid (MonthReads.mofV y m = 0) := by show _ = _; unfold MonthReads.mofV; rw [if_neg (fun h => hm h.2.2)]
      have C : Hid (MonthReads.mofC y m = 2) := by show _ = _; unfold MonthReads.mofC; rw [if_neg (fun h => hm h.2.2)]
      have hm' : m < 1 ∨ 12 < m := by omega
      clear hm
      go_enter Tryd.func49, Tryd.ntmps49
      go_wp2_with (first
      | (go_at_call 98; refine (Base.l01In_yes _ _ _ _ (by omega) (by omega)).mono ?_; rintro e w' ⟨rfl, rfl⟩)
      | (go_at_call 98; refine (Base.l01In_no _ _ _ _ (by omega)).mono ?_; rintro e w' ⟨rfl, rfl⟩)
      | (go_at_call 97; refine (Base.inRange_yes _ _ _ _ (by omega) (by omega)).mono ?_; rintro e w' ⟨rfl, rfl⟩)
      | (go_at_call 97; refine (Base.inRange_no _ _ _ _ (by omega)).mono ?_; rintro e w' ⟨rfl, rfl⟩)
      | (go_at_call 73; refine (Base.spec_l01Money_yes _ _ (by omega) (by omega)).mono ?_; rintro e w' ⟨rfl, rfl⟩)
      | (go_at_call 73; refine (Base.spec_l01Money_no _ _ (by omega)).mono ?_; rintro e w' ⟨rfl, rfl⟩)
      | (go_at_call 68; refine (Base.impl_isMoney_yes _ _ (by omega) (by omega)).mono ?_; rintro e w' ⟨rfl, rfl⟩)
      | (go_at_call 68; refine (Base.impl_isMoney_no _ _ (by omega)).mono ?_; rintro e w' ⟨rfl, rfl⟩)
      | (go_at_call 79; refine (Base.spec_l02Month_yes _ _ (by omega) (by omega)).mono ?_; rintro e w' ⟨rfl, rfl⟩)
      | (go_at_call 79; refine (Base.spec_l02Month_no _ _ (by omega)).mono ?_; rintro e w' ⟨rfl, rfl⟩)
      | (go_at_call 81; refine (Base.impl_isMonth_yes _ _ (by omega) (by omega)).mono ?_; rintro e w' ⟨rfl, rfl⟩)
      | (go_at_call 81; refine (Base.impl_isMonth_no _ _ (by omega)).mono ?_; rintro e w' ⟨rfl, rfl⟩)
     )
      go_ret2
      exact ⟨by rw [V.out, C.out]; rfl, rfl⟩
  · have V : Hid (MonthReads.mofV y m = 0) := by show _ = _; unfold MonthReads.mofV; rw [if_neg (fun h => hy ⟨h.1, h.2.1⟩)]
    have C : Hid (MonthReads.mofC y m = 2) := by show _ = _; unfold MonthReads.mofC; rw [if_neg (fun h => hy ⟨h.1, h.2.1⟩)]
    have hy' : y < 0 ∨ 2999 < y := by omega
    clear hy
    go_enter Tryd.func49, Tryd.ntmps49
    go_wp2_with (first
      | (go_at_call 98; refine (Base.l01In_yes _ _ _ _ (by omega) (by omega)).mono ?_; rintro e w' ⟨rfl, rfl⟩)
      | (go_at_call 98; refine (Base.l01In_no _ _ _ _ (by omega)).mono ?_; rintro e w' ⟨rfl, rfl⟩)
      | (go_at_call 97; refine (Base.inRange_yes _ _ _ _ (by omega) (by omega)).mono ?_; rintro e w' ⟨rfl, rfl⟩)
      | (go_at_call 97; refine (Base.inRange_no _ _ _ _ (by omega)).mono ?_; rintro e w' ⟨rfl, rfl⟩)
      | (go_at_call 73; refine (Base.spec_l01Money_yes _ _ (by omega) (by omega)).mono ?_; rintro e w' ⟨rfl, rfl⟩)
      | (go_at_call 73; refine (Base.spec_l01Money_no _ _ (by omega)).mono ?_; rintro e w' ⟨rfl, rfl⟩)
      | (go_at_call 68; refine (Base.impl_isMoney_yes _ _ (by omega) (by omega)).mono ?_; rintro e w' ⟨rfl, rfl⟩)
      | (go_at_call 68; refine (Base.impl_isMoney_no _ _ (by omega)).mono ?_; rintro e w' ⟨rfl, rfl⟩)
      | (go_at_call 79; refine (Base.spec_l02Month_yes _ _ (by omega) (by omega)).mono ?_; rintro e w' ⟨rfl, rfl⟩)
      | (go_at_call 79; refine (Base.spec_l02Month_no _ _ (by omega)).mono ?_; rintro e w' ⟨rfl, rfl⟩)
      | (go_at_call 81; refine (Base.impl_isMonth_yes _ _ (by omega) (by omega)).mono ?_; rintro e w' ⟨rfl, rfl⟩)
      | (go_at_call 81; refine (Base.impl_isMonth_no _ _ (by omega)).mono ?_; rintro e w' ⟨rfl, rfl⟩)
     )
    go_ret2
    exact ⟨by rw [V.out, C.out]; rfl, rfl⟩

/-- What the first part draws from a pair: a month or none. -/
theorem pairs (y m : Int) : ∃ n c : Int, Hid (∀ w, Calls Tryd.prog 48 #[.int .i64 y, .int .i64 m] w fun e w' => e = .returned (.tuple #[.int .i64 n, .int .i64 c]) ∧ w = w') ∧ Hid (∀ w, Calls Tryd.prog 49 #[.int .i64 y, .int .i64 m] w fun e w' => e = .returned (.tuple #[.int .i64 n, .int .i64 c]) ∧ w = w') ∧
    (c = 2 ∨ c = 0 ∧ Hid (∀ w, Calls Tryd.prog 51 #[.int .i64 n] w fun e w' => e = .returned (.tuple #[.int .i64 y, .int .i64 m, .int .i64 0]) ∧ w = w')) := by
  refine ⟨_, _, fun w => MonthReads.implMonthOf_any y m w, fun w => specMonthOf_any y m w, ?_⟩
  by_cases h : 0 ≤ y ∧ y ≤ 2999 ∧ 1 ≤ m ∧ m ≤ 12
  · right
    have V : MonthReads.mofV y m = 12 * y + m - 1 := by unfold MonthReads.mofV; rw [if_pos h]
    have C : MonthReads.mofC y m = 0 := by unfold MonthReads.mofC; rw [if_pos h]
    refine ⟨C, fun w => ?_⟩
    have := Months.implYearOf_yes (12 * y + m - 1) w (by omega) (by omega)
    rw [show (12 * y + m - 1) / 12 = y by omega, show (12 * y + m - 1) % 12 + 1 = m by omega] at this
    rw [V]; exact this
  · left; unfold MonthReads.mofC; rw [if_neg h]
/-- What a number tells: its year and month, its text, what the text reads as. -/
theorem whole (k : Int) (B : Nat) : ∃ (a b c x : Int) (ok : Bool) (t : List UInt8), Hid (∀ w, Calls Tryd.prog 51 #[.int .i64 k] w fun e w' => e = .returned (.tuple #[.int .i64 a, .int .i64 b, .int .i64 c]) ∧ w = w') ∧ Hid (∀ w, Calls Tryd.prog 52 #[.int .i64 k] w fun e w' => e = .returned (.tuple #[.int .i64 a, .int .i64 b, .int .i64 c]) ∧ w = w') ∧
    Hid (∀ w, Tab B w → Calls Tryd.prog 26 #[.int .i64 k] w fun e w' => e = .returned (.string (S t)) ∧ Below w.heap.size w w') ∧ Hid (∀ w, Calls Tryd.prog 25 #[.int .i64 k] w fun e w' => e = .returned (.string (S t)) ∧ Below w.heap.size w w') ∧
    Hid (∀ w, Tab B w → Doors.DoorE w → Calls Tryd.prog 46 #[.string (S t)] w fun e w' => e = .returned (.tuple #[.int .i64 x, .bool ok]) ∧ Below w.heap.size w w') ∧
    ((c = 0 ∧ ok = true ∧ x = k ∧ Hid (∀ w, Calls Tryd.prog 48 #[.int .i64 a, .int .i64 b] w fun e w' => e = .returned (.tuple #[.int .i64 k, .int .i64 0]) ∧ w = w')) ∨ (c = 2 ∧ ok = false)) := by
  have RM : ∀ w, Tab B w → Doors.DoorE w → Calls Tryd.prog 46 #[.string (S (MonthReads.monX k))] w fun e w' => e = .returned (.tuple #[.int .i64 (MonthReads.rmonV (MonthReads.monX k)), .bool (MonthReads.rmonB (MonthReads.monX k))]) ∧ Below w.heap.size w w' := fun w hT hD => by
    have := MonthReads.implReadMonth_any (S (MonthReads.monX k)) B w (by rw [S_size]; have := Draws.monX_len k; omega) hT hD
    rw [S_list] at this; exact this
  by_cases h : 0 ≤ k ∧ k ≤ 35999
  · refine ⟨k / 12, k % 12 + 1, 0, _, _, _, fun w => Months.implYearOf_yes k w h.1 h.2, fun w => Months.specYearOf_yes k w h.1 h.2, fun w hT => MonthReads.implMonthText_any k B w hT, fun w => MonthReads.specMonthText_any k w, RM, .inl ⟨rfl, ?_⟩⟩
    have hm : MonthReads.IsMon (MonthReads.monX k) k := ⟨h.1, by omega, by unfold MonthReads.monX; rw [if_pos h]⟩
    have := MonthReads.rmon_yes hm
    refine ⟨this.1, this.2, fun w => ?_⟩
    have M := MonthReads.implMonthOf_any (k / 12) (k % 12 + 1) w
    have V : MonthReads.mofV (k / 12) (k % 12 + 1) = k := by unfold MonthReads.mofV; rw [if_pos (by omega)]; omega
    have C : MonthReads.mofC (k / 12) (k % 12 + 1) = 0 := by unfold MonthReads.mofC; rw [if_pos (by omega)]
    rw [V, C] at M
    exact M
  · refine ⟨0, 0, 2, _, _, _, fun w => Months.implYearOf_no k w (by omega), fun w => Months.specYearOf_no k w (by omega), fun w hT => MonthReads.implMonthText_any k B w hT, fun w => MonthReads.specMonthText_any k w, RM, .inr ⟨rfl, ?_⟩⟩
    have e : MonthReads.monX k = [] := by unfold MonthReads.monX; rw [if_neg h]
    rw [e]
    exact (MonthReads.rmon_no (MonthReads.mon_len (by simp))).1
/-- What a text reads as. -/
theorem readsAs (u : ByteArray) (hu : u.size ≤ 1000) (B : Nat) : ∃ (v : Int) (ok : Bool), Hid (∀ w, Tab B w → Doors.DoorE w → Calls Tryd.prog 46 #[.string u] w fun e w' => e = .returned (.tuple #[.int .i64 v, .bool ok]) ∧ Below w.heap.size w w') ∧
    Hid (∀ w, Calls Tryd.prog 45 #[.string u] w fun e w' => e = .returned (.tuple #[.int .i64 v, .bool ok]) ∧ Below w.heap.size w w') ∧ (ok = true → Hid (∀ w, Tab B w → Calls Tryd.prog 26 #[.int .i64 v] w fun e w' => e = .returned (.string u) ∧ Below w.heap.size w w')) := by
  refine ⟨_, _, fun w hT hD => MonthReads.implReadMonth_any u B w (by omega) hT hD, fun w => MonthReads.specReadMonth_any u w (by omega), fun h w hT => ?_⟩
  have hx : ∃ n, MonthReads.IsMon u.data.toList n := @of_decide_eq_true _ (Classical.propDecidable _) h
  obtain ⟨n, hn⟩ := hx
  have M := MonthReads.implMonthText_any n B w hT
  rw [MonthReads.monX_of hn] at M
  rw [(MonthReads.rmon_yes hn).2]
  exact M

set_option maxHeartbeats 4000000 in
set_option maxRecDepth 100000 in
theorem walk (a0 : Option Addr) (len0 cap0 : Nat) (z0 : List Int) (w : World) (w0 : IsRow .u8 w a0 len0 cap0 z0) (hL : laidMetH Tryd.prog Rows.fnMonthsRow.laid w) :
    Calls Tryd.prog 12 #[.slice a0 len0 cap0] w fun e w' => e = .returned (.bool true) ∧ Below w.heap.size w w' := by
  have HT := Lib.hid (LaidTabs.tab_of hL (by kernel_rfl))
  have HD := Lib.hid (Doors.doorE_of hL (by kernel_rfl) (by kernel_rfl))
  clear hL
  have hlen : len0 ≤ 9223372036854775807 := by
    rcases w0 with ⟨_, rfl, _⟩ | ⟨_, _, h1, h2, _⟩
    · omega
    · unfold maxLen at h2; omega
  by_cases hbig : 4096 < len0
  · clear w0 HT HD
    go_enter Tryd.func12, Tryd.ntmps12
    go_wp2
    go_ret
    exact ⟨rfl, Below.refl _ _⟩
  go_enter Tryd.func12, Tryd.ntmps12
  go_wp2_with (go_at_call 17; go_in)
  refine (Draws.drawMonthOf _ _ _ _ _ w0 (by omega)).mono ?_; rintro e w1 ⟨y, m, rfl, hy, hm, hb1⟩
  have HB1 := Lib.hid hb1
  have W1 := Lib.hid (Draws.row_below w0 hb1)
  unfold Draws.I64 at hy hm
  obtain ⟨hy1, hy2⟩ := hy
  obtain ⟨hm1, hm2⟩ := hm
  clear w0 hb1
  obtain ⟨n, c, MI, MS, hc⟩ := pairs y m
  have HC := Lib.hid hc
  clear hc
  go_wp2_with fail
  refine (MI.out _).mono ?_; rintro e w2 ⟨rfl, rfl⟩
  go_wp2_with fail
  refine (MS.out _).mono ?_; rintro e w2 ⟨rfl, rfl⟩
  go_wp2_with fail
  refine (Draws.drawYearOf _ _ _ _ _ W1.out (by omega)).mono ?_; rintro e w2 ⟨k, rfl, hk, hb2⟩
  have HB2 := Lib.hid (bl HB1.out hb2)
  have W2 := Lib.hid (Draws.row_below W1.out hb2)
  unfold Draws.I64 at hk
  obtain ⟨hk1, hk2⟩ := hk
  clear hb2
  obtain ⟨a, b, cy, x, ok, t, YI, YS, TI, TS, RI, hw⟩ := whole k w.heap.size
  have HW := Lib.hid hw
  clear hw
  go_wp2_with fail
  refine (YI.out _).mono ?_; rintro e w3 ⟨rfl, rfl⟩
  go_wp2_with fail
  refine (YS.out _).mono ?_; rintro e w3 ⟨rfl, rfl⟩
  go_wp2_with fail
  refine (TI.out _ (HT.out.below HB2.out)).mono ?_; rintro e w3 ⟨rfl, hb3⟩
  have HB3 := Lib.hid (bl HB2.out hb3)
  have W3 := Lib.hid (Draws.row_below W2.out hb3)
  clear hb3
  go_wp2_with fail
  refine (RI.out _ (HT.out.below HB3.out) (HD.out.below HB3.out)).mono ?_; rintro e w4 ⟨rfl, hb4⟩
  have HB4 := Lib.hid (bl HB3.out hb4)
  have W4 := Lib.hid (Draws.row_below W3.out hb4)
  clear hb4
  go_wp2_with fail
  refine (Draws.drawReadMonth _ _ _ _ _ W4.out (by omega)).mono ?_; rintro e w5 ⟨u, rfl, hu, hb5⟩
  have HB5 := Lib.hid (bl HB4.out hb5)
  obtain ⟨v, os, UI, US, UT⟩ := readsAs u hu w.heap.size
  have HU := Lib.hid UT
  clear hb5 UT hu
  go_wp2_with fail
  refine (UI.out _ (HT.out.below HB5.out) (HD.out.below HB5.out)).mono ?_; rintro e w6 ⟨rfl, hb6⟩
  have HB6 := Lib.hid (bl HB5.out hb6)
  clear hb6
  go_wp2_with fail
  refine (US.out _).mono ?_; rintro e w7 ⟨rfl, hb7⟩
  have HB7 := Lib.hid (bl HB6.out hb7)
  clear hb7
  rcases HW.out with ⟨rfl, rfl, rfl, MK⟩ | ⟨rfl, rfl⟩
  all_goals
    go_wp2_with fail
    refine (TS.out _).mono ?_; rintro e w8 ⟨rfl, hb8⟩
    have HB8 := Lib.hid (bl HB7.out hb8)
    clear hb8 HW
    cases os with
    | true =>
      have UT := HU.out rfl
      clear HU
      go_wp2_with fail
      refine (UT.out _ (HT.out.below HB8.out)).mono ?_; rintro e w9 ⟨rfl, hb9⟩
      have HB9 := Lib.hid (bl HB8.out hb9)
      clear hb9
      rcases HC.out with rfl | ⟨rfl, YN⟩
      all_goals
        clear HC
        go_wp2_with (first | (go_at_call 48; refine (MK.out _).mono ?_; rintro e w' ⟨rfl, rfl⟩) | (go_at_call 51; refine (YN.out _).mono ?_; rintro e w' ⟨rfl, rfl⟩))
        go_ret
        exact ⟨by first | rfl | exact Base.ret_bool (by simp), HB9.out⟩
    | false =>
      clear HU
      rcases HC.out with rfl | ⟨rfl, YN⟩
      all_goals
        clear HC
        go_wp2_with (first | (go_at_call 48; refine (MK.out _).mono ?_; rintro e w' ⟨rfl, rfl⟩) | (go_at_call 51; refine (YN.out _).mono ?_; rintro e w' ⟨rfl, rfl⟩))
        go_ret
        exact ⟨by first | rfl | exact Base.ret_bool (by simp), HB8.out⟩

set_option maxRecDepth 100000 in
theorem contract (H : Type) (enc : TypeId × Value → H) (W : World) (base : Nat) (args : Array Value) (ds gs : List (DataW H)) (before : List MemPlace)
    (hval0 : ∀ (j : Nat) t v, Tryd.f12.params[j]? = some t → args[j]? = some v → Value.okWide Tryd.prog W .any base t v)
    (hW : DataW.Whole enc Tryd.prog Tryd.f12.params.toList Rows.fnMonthsSpec.vars false W args.toList ds gs before) (hL : laidMetH Tryd.prog Rows.fnMonthsRow.laid W) :
    Calls Tryd.prog 12 args W fun e W' => ∃ v, e = .returned v ∧ Rows.fnMonthsSpec.post enc Tryd.prog Tryd.f12 false true false false W args v W' := by
  have hval : ∀ (j : Nat) t v, Tryd.f12.params[j]? = some t → args[j]? = some v → Value.okWide Tryd.prog W .any base t v := hval0
  have hW' := hW
  obtain ⟨p, q, hA0, hV, rfl, hfz, hnd⟩ := hW
  have hA : DataW.TrodAll enc Tryd.prog W 0 (fun _ => true) true Tryd.f12.params.toList args.toList ds p := hA0
  rw [Tryd.params12] at hA hval
  obtain ⟨v0, vs0, d0, ds0, p0, q0, hargs, rfl, rfl, h0, r0⟩ := trodAll_cons hA
  obtain ⟨rfl, rfl, rfl⟩ := trodAll_nil r0
  obtain rfl : args = #[v0] := by cases args; simp_all
  obtain ⟨rfl, rfl⟩ := trodVars_none hV
  obtain ⟨a0, len0, cap0, rfl⟩ := okWide_slice Tryd.underlying25 (hval 0 25 v0 rfl rfl)
  have k0 := h0
  have lt0 : ∀ x ∈ p0, x.block < W.heap.size := by obtain ⟨m, hm⟩ := k0; exact DataW.trod_lt m _ _ _ hm
  obtain ⟨z0, w0⟩ : ∃ zs, IsRow .u8 W a0 len0 cap0 zs := by
    obtain ⟨fuel, hf⟩ := h0
    rcases open_ints Tryd.underlying25 Tryd.underlying5 (by kernel_rfl) hf with ⟨hcs, _⟩ | ⟨x, l, c, zs, hcs, _, hl, hm, hz, _, hcell, hwz⟩
    · simp [Value.cells] at hcs
      obtain ⟨rfl, rfl, rfl⟩ := hcs
      exact ⟨[], .inl ⟨rfl, rfl, rfl, rfl⟩⟩
    · simp [Value.cells] at hcs
      obtain ⟨rfl, rfl, rfl⟩ := hcs
      exact ⟨zs, .inr ⟨_, rfl, hl, hm, by simpa using hz, hcell, hwz⟩⟩
  clear hA0 hval0
  refine (walk a0 len0 cap0 z0 W w0 hL).mono fun e W' ⟨he, bel⟩ => ?_
  subst he
  exact ⟨_, rfl, _, _, _, [], _, [], hW', trodAll_mk1 (shut_bool Tryd.underlying4 _), (trodAll_cons_mk (Below.trod laidOut (by kernel_rfl) (of_decide_eq_true (by kernel_rfl)) k0 bel lt0) trodAll_mk0), rfl, bel.frame _, fun h => by cases h⟩

noncomputable def laidWorld (os : Os) : World := World.laidAll Tryd.prog os Rows.fnMonthsRow.laid
theorem laid_met (os : Os) : laidMet Tryd.prog Rows.fnMonthsRow.laid ((laidWorld os).forCall (fun _ _ => 0) ⟨#[], #[.slice none 0 0], []⟩).memory :=
  laidMet_laidAll _ (by kernel_rfl) (by kernel_rfl)
theorem reads (os : Os) {H : Type} (enc : TypeId × Value → H) : ∃ places, DataW.whole enc Tryd.prog ((laidWorld os).forCall (fun _ _ => 0) ⟨#[], #[.slice none 0 0], []⟩).memory Tryd.f12.params.toList Rows.fnMonthsSpec.vars false (#[.slice none 0 0] : Array Value).toList 8 = some ([.nil], [], places) :=
  ⟨[], by kernel_rfl⟩
set_option maxRecDepth 100000 in
theorem lifted (os : Os) (started : os.Started) (H : Type) (enc : TypeId × Value → H) (F : Stop.Interp) :
    ReturnsInHanded {} Tryd.checked os 12 .any ((OpenSpec.ofChange Rows.fnMonthsSpec).preRow enc Tryd.prog Tryd.f12 Rows.fnMonthsRow.domain false Rows.fnMonthsRow.laid) (((OpenSpec.ofChange Rows.fnMonthsSpec).at F).post enc Tryd.prog Tryd.f12 false true false false) := by
  obtain ⟨places, hx⟩ := reads os enc
  refine returnsInHanded_of_row (C := Tryd.checked) (s := OpenSpec.ofChange Rows.fnMonthsSpec) own started (by kernel_rfl) Tryd.func12
    (witness_row_atRef (enc := enc) (C := Tryd.checked) false (laidWorld os) #[.slice none 0 0] (World.laidAll_os _ _ _) (by kernel_rfl) (by kernel_rfl) (by kernel_rfl) (OpenSpec.preRow_of_cond 8 hx (by kernel_rfl) (fun k hk => by cases hk) (by kernel_rfl) (laid_met os))) ?_
  intro W base args ds gs before hval hW _ _ _ hL _ _
  exact contract H enc W base args ds gs before hval hW hL

theorem said : Rows.FnMonthsSaid :=
  OpenClaim.holds_of_cond 12 Tryd.f12 rfl rfl rfl rfl rfl rfl rfl ⟨rfl, rfl, rfl, rfl, rfl⟩ rfl rfl rfl rfl rfl (by kernel_rfl) Tryd.func12 (by kernel_rfl)
    (of_decide_eq_true (by kernel_rfl)) (by unfold Func.isWrapper; first | (rw [if_pos (by decide +kernel)]; kernel_rfl) | (rw [if_neg (by decide +kernel)]; exact ⟨rfl, rfl⟩))
    (fun os started H enc _ F => by rw [OpenClaim.pre_eq_preRow]; exact lifted os started H enc F)

theorem plain (f : FuncId) (fn : Func) (hf : Tryd.pinned.checked.prog.funcNamed "loop.example/g01025/laws.FnMonths" = some f) (hfn : Tryd.pinned.checked.prog.funcs[f]? = some fn) :
    Rows.fnMonthsCard.stood.looks = Tryd.pinned.checked.prog.looks [] ∧ ∀ (j : Nat) t, fn.params[j]? = some t → Tryd.pinned.checked.prog.wantsStandIn t = false := by
  obtain rfl : f = 12 := Option.some.inj ((show Tryd.prog.funcNamed "loop.example/g01025/laws.FnMonths" = some 12 by kernel_rfl).symm.trans hf) |>.symm
  obtain rfl : fn = Tryd.f12 := (Option.some.inj (Tryd.func12.symm.trans hfn)).symm
  refine ⟨by kernel_rfl, fun j t ht => ?_⟩
  rw [Tryd.params12] at ht
  have hm := Array.mem_of_getElem? ht
  simp only [List.mem_toArray, List.mem_cons, List.not_mem_nil, or_false] at hm
  rcases hm with rfl
  exact (show Tryd.prog.wantsStandIn 25 = false by kernel_rfl)
theorem proved : Rows.FnMonthsCardSaid :=
  Claim7.holds_tied_plain_at .later [] _ _ _ _ said (fun _ h => by cases h) (by kernel_rfl) (fun _ h => by cases h) fnMonths_row_tie rfl ⟨rfl, rfl⟩ (by kernel_rfl) rfl plain (by kernel_rfl)
end Go.Proofs.YtmngljpncglchaaDoor.fnMonths
