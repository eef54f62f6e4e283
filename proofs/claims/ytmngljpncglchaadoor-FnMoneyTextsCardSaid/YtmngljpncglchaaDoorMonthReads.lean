/-
  Contracts of ReadMonth of both packages.
  Conditions: the library's table and its two errors read (Tab, DoorE).
-/
import Derived.Test.YtmngljpncglchaaDoorDoors
namespace Go.Proofs.YtmngljpncglchaaDoor.MonthReads
open Go.RowKit Mem Texts TextPlain ReadPlain Doors
set_option linter.unusedVariables false

/-- The month that a text tells, if it is the text of one. -/
def IsMon (l : List UInt8) (n : Int) : Prop := 0 ≤ n ∧ n < 36000 ∧ l = monT n
noncomputable def rmonB (l : List UInt8) : Bool := @decide (∃ n, IsMon l n) (Classical.propDecidable _)
noncomputable def rmonV (l : List UInt8) : Int := @dite _ (∃ n, IsMon l n) (Classical.propDecidable _) (fun h => h.choose) (fun _ => 0)
def monX (n : Int) : List UInt8 := if 0 ≤ n ∧ n ≤ 35999 then monT n else []
def digs (l : List UInt8) : List UInt8 := l.take 4 ++ l.drop 5
theorem monT_parts (n : Int) (h0 : 0 ≤ n) (h1 : n < 36000) : (monT n).length = 7 ∧ (monT n).take 4 = pad (n / 12) 4 ∧ (monT n).drop 5 = pad (n % 12 + 1) 2 := by
  obtain ⟨y, hy⟩ := Int.eq_ofNat_of_zero_le (show 0 ≤ n / 12 by omega)
  obtain ⟨m, hm⟩ := Int.eq_ofNat_of_zero_le (show 0 ≤ n % 12 + 1 by omega)
  unfold monT
  rw [hy, hm, pad4 y (by omega), pad2 m (by omega)]
  exact ⟨rfl, rfl, rfl⟩
theorem monT_val (n : Int) (h0 : 0 ≤ n) (h1 : n < 36000) : allD (pad (n / 12) 4) ∧ allD (pad (n % 12 + 1) 2) ∧ (val (digs (monT n)) : Int) = n / 12 * 100 + (n % 12 + 1) ∧ (val (pad (n / 12) 4) : Int) = n / 12 ∧ (val (pad (n % 12 + 1) 2) : Int) = n % 12 + 1 ∧ pad (n / 12) 4 ≠ [] ∧ pad (n % 12 + 1) 2 ≠ [] := by
  obtain ⟨_, e1, e2⟩ := monT_parts n h0 h1
  unfold digs
  rw [e1, e2]
  obtain ⟨y, hy⟩ := Int.eq_ofNat_of_zero_le (show 0 ≤ n / 12 by omega)
  obtain ⟨m, hm⟩ := Int.eq_ofNat_of_zero_le (show 0 ≤ n % 12 + 1 by omega)
  rw [hy, hm]
  obtain ⟨a, b, c⟩ := pad4_dig y (by omega)
  obtain ⟨d, e, f⟩ := pad2_dig m (by omega)
  refine ⟨a, d, ?_, ?_, ?_, (fun g => by rw [g] at c; cases c), (fun g => by rw [g] at f; cases f)⟩
  · unfold val; rw [valF_app, b, e]; omega
  · unfold val; rw [b]; omega
  · unfold val; rw [e]; omega
theorem mon_inj {l : List UInt8} {a b : Int} (h : IsMon l a) (g : IsMon l b) : a = b := by
  obtain ⟨a0, a1, rfl⟩ := h
  obtain ⟨b0, b1, e⟩ := g
  have v1 := (monT_val a a0 a1).2.2.1
  have v2 := (monT_val b b0 b1).2.2.1
  rw [e] at v1
  omega
theorem rmon_yes {l : List UInt8} {n : Int} (h : IsMon l n) : rmonB l = true ∧ rmonV l = n := by
  have hx : ∃ n, IsMon l n := ⟨n, h⟩
  refine ⟨@decide_eq_true _ (Classical.propDecidable _) hx, ?_⟩
  unfold rmonV
  rw [@dif_pos _ (Classical.propDecidable _) hx]
  exact mon_inj hx.choose_spec h
theorem rmon_no {l : List UInt8} (h : ∀ n, ¬ IsMon l n) : rmonB l = false ∧ rmonV l = 0 := by
  have hx : ¬ ∃ n, IsMon l n := fun ⟨n, g⟩ => h n g
  refine ⟨@decide_eq_false _ (Classical.propDecidable _) hx, ?_⟩
  unfold rmonV
  rw [@dif_neg _ (Classical.propDecidable _) hx]
/-- A text that is the text of the number that was read. -/
theorem mon_of_text {l : List UInt8} {n : Int} (hl : l.length = 7) (h : monX n = l) : IsMon l n := by
  unfold monX at h
  split at h
  · rename_i g; exact ⟨g.1, by omega, h.symm⟩
  · subst h; cases hl
theorem monX_of {l : List UInt8} {n : Int} (h : IsMon l n) : monX n = l := by
  obtain ⟨a, b, rfl⟩ := h
  unfold monX; rw [if_pos ⟨a, by omega⟩]
theorem mon_ret {l : List UInt8} {b : Bool} {n : Int} (h : rmonB l = b ∧ rmonV l = n) : Ending.returned (.tuple #[.int .i64 n, .bool b]) = .returned (.tuple #[.int .i64 (rmonV l), .bool (rmonB l)]) := by rw [h.1, h.2]
theorem mon_len {l : List UInt8} (h : l.length ≠ 7) (n : Int) : ¬ IsMon l n := fun ⟨a, b, e⟩ => h (by rw [e]; exact (monT_parts n a b).1)

theorem take_snocB (s : ByteArray) (k : Nat) (h : k < s.size) : s.data.toList.take (k + 1) = s.data.toList.take k ++ [s[k]] := by
  rw [List.take_succ_eq_append_getElem (by simpa using h)]; rfl
theorem val_pow (l : List UInt8) (h : allD l) (k : Nat) (hk : l.length ≤ k) : val l < 10 ^ k := by
  have h1 := val_lt l h 0
  rw [Nat.zero_add, Nat.one_mul] at h1
  exact Nat.lt_of_lt_of_le h1 (Nat.pow_le_pow_right (by omega) hk)

/-- Six bytes out of seven, under a name. -/
theorem cut7 (s : ByteArray) (hs : s.size = 7) : ∃ d : ByteArray, Hid (d.data.toList = digs s.data.toList) ∧ 6 ≤ d.size ∧ d.size ≤ 6 ∧ ∀ w, (Op.stringOp .add (s.extract 0 4) (s.extract 5 s.size)).run Tryd.prog w = .ok (.string d) w := by
  have hl : s.data.toList.length = 7 := by rw [show s.data.toList.length = s.size by simp]; exact hs
  have e : (digs s.data.toList).length = 6 := by unfold digs; rw [List.length_append, List.length_take, List.length_drop]; omega
  refine ⟨S (digs s.data.toList), S_list _, by rw [S_size, e]; exact Nat.le_refl _, by rw [S_size, e]; exact Nat.le_refl _, fun w => ?_⟩
  exact add_str _ _ (s.data.toList.take 4) (s.data.toList.drop 5) (by rw [← Lib.extract_from_zero]; rfl) (by rw [← Lib.extract_to_end]; rfl) (by rw [List.length_take, List.length_drop]; omega) w

theorem specMonthText_any (n : Int) (w : World) : Calls Tryd.prog 25 #[.int .i64 n] w fun e w' => e = .returned (.string (S (monX n))) ∧ Below w.heap.size w w' := by
  by_cases h : 0 ≤ n ∧ n ≤ 35999
  · have e : monX n = monT n := by unfold monX; rw [if_pos h]
    rw [e]; exact specMonthText_yes n w h.1 h.2
  · have e : monX n = [] := by unfold monX; rw [if_neg h]
    rw [e]; exact (specMonthText_no n w (by omega)).mono fun _ _ ⟨a, b⟩ => ⟨a, b ▸ Below.refl _ _⟩
theorem implMonthText_any (n : Int) (B : Nat) (w : World) (hT : Tab B w) : Calls Tryd.prog 26 #[.int .i64 n] w fun e w' => e = .returned (.string (S (monX n))) ∧ Below w.heap.size w w' := by
  by_cases h : 0 ≤ n ∧ n ≤ 35999
  · have e : monX n = monT n := by unfold monX; rw [if_pos h]
    rw [e]; exact implMonthText_yes n B w hT h.1 h.2
  · have e : monX n = [] := by unfold monX; rw [if_neg h]
    rw [e]; exact (implMonthText_no n w (by omega)).mono fun _ _ ⟨a, b⟩ => ⟨a, b ▸ Below.refl _ _⟩

set_option maxHeartbeats 1000000 in
set_option maxRecDepth 100000 in
theorem specReadMonth_any (s : ByteArray) (w : World) (hs : s.size ≤ 1048576) :
    Calls Tryd.prog 45 #[.string s] w fun e w' => e = .returned (.tuple #[.int .i64 (rmonV s.data.toList), .bool (rmonB s.data.toList)]) ∧ Below w.heap.size w w' := by
  have HL : Hid (s.data.toList.length = s.size) := by show _ = _; simp
  by_cases h7 : s.size = 7
  · obtain ⟨d, HD, d1, d2, AD⟩ := cut7 s h7
    have HD1 : Hid (d.data.toList.length = d.size) := by show _ = _; simp
    have hx : (s.size : Int) = 7 := by omega
    have H7 := Lib.hid h7
    clear h7
    go_enter Tryd.func45, Tryd.ntmps45
    go_wp2
    go_quiet (fail)
    go_wp2
    go_loop [5, 6] (fun n i => ∃ (k v : Nat), k ≤ d.size ∧ i = .int .i64 k ∧ n = .int .i64 v ∧ Hid (v = val (d.data.toList.take k) ∧ allD (d.data.toList.take k))) (fun _ i => d.size - (intOf i).toNat)
    case atStart => exact ⟨0, 0, by omega, rfl, rfl, rfl, allD_nil⟩
    case round =>
      obtain ⟨k, v, hk, rfl, rfl, H⟩ := hrel
      have hv : v < 1000000 := by
        rw [H.out.1]; exact val_pow _ H.out.2 6 (by rw [List.length_take]; omega)
      by_cases hlt2 : k < d.size
      · have TS := Lib.hid (take_snocB d k hlt2)
        by_cases hd : 48 ≤ (d[k].toNat : Int) ∧ (d[k].toNat : Int) ≤ 57
        · have HN : Hid (v * 10 + (d[k].toNat - 48) = val (d.data.toList.take (k + 1)) ∧ allD (d.data.toList.take (k + 1))) := by
            show _ ∧ _
            rw [TS.out, val_snoc, ← H.out.1]
            exact ⟨rfl, allD_app H.out.2 (allD_one (decide_eq_true (by omega)))⟩
          obtain ⟨hd1, hd2⟩ := hd
          go_wp2
          go_round
          case rel => exact ⟨k + 1, v * 10 + (d[k].toNat - 48), by omega, by go_num, by congr 1; omega, HN.out⟩
          case measure => simp [intOf]; omega
        · have R := Lib.hid (rmon_no (l := s.data.toList) (fun n ⟨h0, h1, h2⟩ => hd (by
            have ha : allD d.data.toList := by
              obtain ⟨_, e1, e2⟩ := monT_parts n h0 h1
              obtain ⟨g1, g2, _⟩ := monT_val n h0 h1
              rw [HD.out, h2]; unfold digs; rw [e1, e2]; exact allD_app g1 g2
            have : isD d[k] = true := ha _ (by have := List.getElem_mem (l := d.data.toList) (n := k) (by simpa using hlt2); exact this)
            have := isD_of this
            omega)))
          have hd2 : (d[k].toNat : Int) < 48 ∨ 57 < (d[k].toNat : Int) := by omega
          clear hd
          go_wp2
          all_goals
            go_ret2
            exact ⟨mon_ret R.out, bd _ _⟩
      · obtain rfl : k = d.size := by omega
        have H2 : Hid ((v : Nat) = val (digs s.data.toList)) := by
          have := H.out.1; rw [List.take_of_length_le (by rw [HD1.out]; omega), HD.out] at this; exact this
        have hv' : (v : Int) < 1000000 := by omega
        have hv0 : 0 ≤ (v : Int) := by omega
        have C := Lib.hid (fun w => specMonthText_any (12 * ((v : Int) / 100) + (v : Int) % 100 - 1) w)
        have E : ∀ n, IsMon s.data.toList n → n = 12 * ((v : Int) / 100) + (v : Int) % 100 - 1 := fun n ⟨a, b, e⟩ => by
          have h3 := (monT_val n a b).2.2.1
          rw [← e, ← H2.out] at h3
          omega
        have E' := Lib.hid E
        clear E hv
        by_cases hA : monX (12 * ((v : Int) / 100) + (v : Int) % 100 - 1) = s.data.toList
        · have R := Lib.hid (rmon_yes (mon_of_text (by rw [HL.out]; exact H7.out) hA))
          have q1 : ((S (monX (12 * ((v : Int) / 100) + (v : Int) % 100 - 1))).toList == s.toList) = true := (Lib.bytes_beq_iff _ _).2 (by rw [hA]; rfl)
          have Q1 := Lib.hid q1
          clear hA q1
          generalize monX (12 * ((v : Int) / 100) + (v : Int) % 100 - 1) = tx at *
          go_wp2_with fail
          refine (C.out _).mono ?_; rintro e w1 ⟨rfl, hb⟩
          have q1 := Q1.out
          go_wp2
          go_ret2
          exact ⟨mon_ret R.out, bl (bd _ _) hb⟩
        · have R := Lib.hid (rmon_no (l := s.data.toList) (fun n h => hA (by rw [← E'.out n h]; exact monX_of h)))
          have q1 : ((S (monX (12 * ((v : Int) / 100) + (v : Int) % 100 - 1))).toList == s.toList) = false := (Lib.bytes_beq_false_iff _ _).2 (fun e => hA (by rw [← e]; exact (S_list _).symm))
          have Q1 := Lib.hid q1
          clear hA q1
          generalize monX (12 * ((v : Int) / 100) + (v : Int) % 100 - 1) = tx at *
          go_wp2_with fail
          refine (C.out _).mono ?_; rintro e w1 ⟨rfl, hb⟩
          have q1 := Q1.out
          go_wp2
          go_ret2
          exact ⟨mon_ret R.out, bl (bd _ _) hb⟩
  · have R := Lib.hid (rmon_no (mon_len (l := s.data.toList) (by rw [HL.out]; exact h7)))
    have h8 : s.size < 7 ∨ 7 < s.size := by omega
    clear h7
    rcases h8 with h8 | h8
    all_goals
      go_enter Tryd.func45, Tryd.ntmps45
      go_wp2
      go_ret2
      exact ⟨mon_ret R.out, Below.refl _ _⟩

def mofV (y m : Int) : Int := if 0 ≤ y ∧ y ≤ 2999 ∧ 1 ≤ m ∧ m ≤ 12 then 12 * y + m - 1 else 0
def mofC (y m : Int) : Int := if 0 ≤ y ∧ y ≤ 2999 ∧ 1 ≤ m ∧ m ≤ 12 then 0 else 2
theorem implMonthOf_any (y m : Int) (w : World) : Calls Tryd.prog 48 #[.int .i64 y, .int .i64 m] w fun e w' => e = .returned (.tuple #[.int .i64 (mofV y m), .int .i64 (mofC y m)]) ∧ w = w' := by
  by_cases hy : 0 ≤ y ∧ y ≤ 2999
  · obtain ⟨y0, y1⟩ := hy
    by_cases hm : 1 ≤ m ∧ m ≤ 12
    · obtain ⟨m0, m1⟩ := hm
      have V : Hid (mofV y m = 12 * y + m - 1) := by show _ = _; unfold mofV; rw [if_pos ⟨y0, y1, m0, m1⟩]
      have C : Hid (mofC y m = 0) := by show _ = _; unfold mofC; rw [if_pos ⟨y0, y1, m0, m1⟩]
      go_enter Tryd.func48, Tryd.ntmps48
      go_wp2_with (first
      | (go_at_call 98; refine (Base.l01In_yes _ _ _ _ (by omega) (by omega)).mono ?_; rintro e w' ⟨rfl, rfl⟩)
      | (go_at_call 98; refine (Base.l01In_no _ _ _ _ (by omega)).mono ?_; rintro e w' ⟨rfl, rfl⟩)
      | (go_at_call 97; refine (Base.inRange_yes _ _ _ _ (by omega) (by omega)).mono ?_; rintro e w' ⟨rfl, rfl⟩)
      | (go_at_call 97; refine (Base.inRange_no _ _ _ _ (by omega)).mono ?_; rintro e w' ⟨rfl, rfl⟩)
      | (go_at_call 73; refine (Base.spec_l01Money_yes _ _ (by omega) (by omega)).mono ?_; rintro e w' ⟨rfl, rfl⟩)
      | (go_at_call 73; refine (Base.spec_l01Money_no _ _ (by omega)).mono ?_; rintro e w' ⟨rfl, rfl⟩)
      | (go_at_call 68; refine (Base.impl_isMoney_yes _ _ (by omega) (by omega)).mono ?_; rintro e w' ⟨rfl, rfl⟩)
      | (go_at_call 68; refine (Base.impl_isMoney_no _ _ (by omega)).mono ?_; rintro e w' ⟨rfl, rfl⟩)
      | (go_at_call 79; refine (Base.spec_l02Month_yes _ _ (by omega) (by omega)).mono ?_; rintro e w' ⟨rfl, rfl⟩)
      | (go_at_call 79; refine (Base.spec_l02Month_no _ _ (by omega)).mono ?_; rintro e w' ⟨rfl, rfl⟩)
      | (go_at_call 81; refine (Base.impl_isMonth_yes _ _ (by omega) (by omega)).mono ?_; rintro e w' ⟨rfl, rfl⟩)
      | (go_at_call 81; refine (Base.impl_isMonth_no _ _ (by omega)).mono ?_; rintro e w' ⟨rfl, rfl⟩)
     )
      go_ret2
      exact ⟨by rw [V.out, C.out]; rfl, rfl⟩
    · have V : Hid (mofV y m = 0) := by show _ = _; unfold mofV; rw [if_neg (fun h => hm h.2.2)]
      have C : Hid (mofC y m = 2) := by show _ = _; unfold mofC; rw [if_neg (fun h => hm h.2.2)]
      have hm' : m < 1 ∨ 12 < m := by omega
      clear hm
      go_enter Tryd.func48, Tryd.ntmps48
      go_wp2_with (first
      | (go_at_call 98; refine (Base.l01In_yes _ _ _ _ (by omega) (by omega)).mono ?_; rintro e w' ⟨rfl, rfl⟩)
      | (go_at_call 98; refine (Base.l01In_no _ _ _ _ (by omega)).mono ?_; rintro e w' ⟨rfl, rfl⟩)
      | (go_at_call 97; refine (Base.inRange_yes _ _ _ _ (by omega) (by omega)).mono ?_; rintro e w' ⟨rfl, rfl⟩)
      | (go_at_call 97; refine (Base.inRange_no _ _ _ _ (by omega)).mono ?_; rintro e w' ⟨rfl, rfl⟩)
      | (go_at_call 73; refine (Base.spec_l01Money_yes _ _ (by omega) (by omega)).mono ?_; rintro e w' ⟨rfl, rfl⟩)
      | (go_at_call 73; refine (Base.spec_l01Money_no _ _ (by omega)).mono ?_; rintro e w' ⟨rfl, rfl⟩)
      | (go_at_call 68; refine (Base.impl_isMoney_yes _ _ (by omega) (by omega)).mono ?_; rintro e w' ⟨rfl, rfl⟩)
      | (go_at_call 68; refine (Base.impl_isMoney_no _ _ (by omega)).mono ?_; rintro e w' ⟨rfl, rfl⟩)
      | (go_at_call 79; refine (Base.spec_l02Month_yes _ _ (by omega) (by omega)).mono ?_; rintro e w' ⟨rfl, rfl⟩)
      | (go_at_call 79; refine (Base.spec_l02Month_no _ _ (by omega)).mono ?_; rintro e w' ⟨rfl, rfl⟩)
      | (go_at_call 81; refine (Base.impl_isMonth_yes _ _ (by omega) (by omega)).mono ?_; rintro e w' ⟨rfl, rfl⟩)
      | (go_at_call 81; refine (Base.impl_isMonth_no _ _ (by omega)).mono ?_; rintro e w' ⟨rfl, rfl⟩)
     )
      go_ret2
      exact ⟨by rw [V.out, C.out]; rfl, rfl⟩
  · have V : Hid (mofV y m = 0) := by show _ = _; unfold mofV; rw [if_neg (fun h => hy ⟨h.1, h.2.1⟩)]
    have C : Hid (mofC y m = 2) := by show _ = _; unfold mofC; rw [if_neg (fun h => hy ⟨h.1, h.2.1⟩)]
    have hy' : y < 0 ∨ 2999 < y := by omega
    clear hy
    go_enter Tryd.func48, Tryd.ntmps48
    go_wp2_with (first
      | (go_at_call 98; refine (Base.l01In_yes _ _ _ _ (by omega) (by omega)).mono ?_; rintro e w' ⟨rfl, rfl⟩)
      | (go_at_call 98; refine (Base.l01In_no _ _ _ _ (by omega)).mono ?_; rintro e w' ⟨rfl, rfl⟩)
      | (go_at_call 97; refine (Base.inRange_yes _ _ _ _ (by omega) (by omega)).mono ?_; rintro e w' ⟨rfl, rfl⟩)
      | (go_at_call 97; refine (Base.inRange_no _ _ _ _ (by omega)).mono ?_; rintro e w' ⟨rfl, rfl⟩)
      | (go_at_call 73; refine (Base.spec_l01Money_yes _ _ (by omega) (by omega)).mono ?_; rintro e w' ⟨rfl, rfl⟩)
      | (go_at_call 73; refine (Base.spec_l01Money_no _ _ (by omega)).mono ?_; rintro e w' ⟨rfl, rfl⟩)
      | (go_at_call 68; refine (Base.impl_isMoney_yes _ _ (by omega) (by omega)).mono ?_; rintro e w' ⟨rfl, rfl⟩)
      | (go_at_call 68; refine (Base.impl_isMoney_no _ _ (by omega)).mono ?_; rintro e w' ⟨rfl, rfl⟩)
      | (go_at_call 79; refine (Base.spec_l02Month_yes _ _ (by omega) (by omega)).mono ?_; rintro e w' ⟨rfl, rfl⟩)
      | (go_at_call 79; refine (Base.spec_l02Month_no _ _ (by omega)).mono ?_; rintro e w' ⟨rfl, rfl⟩)
      | (go_at_call 81; refine (Base.impl_isMonth_yes _ _ (by omega) (by omega)).mono ?_; rintro e w' ⟨rfl, rfl⟩)
      | (go_at_call 81; refine (Base.impl_isMonth_no _ _ (by omega)).mono ?_; rintro e w' ⟨rfl, rfl⟩)
     )
    go_ret2
    exact ⟨by rw [V.out, C.out]; rfl, rfl⟩

theorem mon_parse {l : List UInt8} {n : Int} (h : IsMon l n) : Lib.parseIntB 64 (l.take 4) = .ok (n / 12) ∧ Lib.parseIntB 64 (l.drop 5) = .ok (n % 12 + 1) := by
  obtain ⟨h0, h1, rfl⟩ := h
  obtain ⟨_, e1, e2⟩ := monT_parts n h0 h1
  obtain ⟨g1, g2, _, g3, g4, g5, g6⟩ := monT_val n h0 h1
  rw [e1, e2, parse_pos _ g1 g5 (by omega), parse_pos _ g2 g6 (by omega), g3, g4]
  exact ⟨rfl, rfl⟩
theorem ok_inj {a b : Int} (h : Lib.NumEnd.ok a = Lib.NumEnd.ok b) : a = b := by injection h

set_option maxHeartbeats 2000000 in
set_option maxRecDepth 100000 in
theorem implReadMonth_any (s : ByteArray) (B : Nat) (w : World) (hs : s.size ≤ 1048576) (hT : Tab B w) (hD : DoorE w) :
    Calls Tryd.prog 46 #[.string s] w fun e w' => e = .returned (.tuple #[.int .i64 (rmonV s.data.toList), .bool (rmonB s.data.toList)]) ∧ Below w.heap.size w w' := by
  have HL : Hid (s.data.toList.length = s.size) := by show _ = _; simp
  have HT := Lib.hid hT
  have HD := Lib.hid hD
  clear hT hD
  by_cases h7 : s.size = 7
  · have hx : (s.size : Int) = 7 := by omega
    have H7 := Lib.hid h7
    have E1 : Hid ((s.extract 0 4).data.toList = s.data.toList.take 4) := by show _ = _; rw [← Lib.extract_from_zero]
    have E2 : Hid ((s.extract 5 s.size).data.toList = s.data.toList.drop 5) := by show _ = _; rw [← Lib.extract_to_end]
    have z1 : (s.extract 0 4).size ≤ 281474976710656 := by rw [Lib.size_eq, E1.out, List.length_take]; omega
    have z2 : (s.extract 5 s.size).size ≤ 281474976710656 := by rw [Lib.size_eq, E2.out, List.length_drop, HL.out]; omega
    have P1 := Lib.hid (fun w hD => parse_any (s.extract 0 4) w z1 hD)
    have P2 := Lib.hid (fun w hD => parse_any (s.extract 5 s.size) w z2 hD)
    rw [E1.out] at P1
    rw [E2.out] at P2
    clear h7 z1 z2 E1 E2
    go_enter Tryd.func46, Tryd.ntmps46
    go_wp2_with fail
    refine (P1.out _ HD.out).mono ?_; rintro e w1 ⟨y, x1, rfl, y0, y1, hb1, hp1⟩
    have HB1 := Lib.hid hb1
    clear hb1
    go_wp2_with fail
    refine (P2.out _ (HD.out.below HB1.out)).mono ?_; rintro e w2 ⟨m, x2, rfl, m0, m1, hb2, hp2⟩
    have HB2 := Lib.hid (bl HB1.out hb2)
    clear hb2
    rcases hp1 with ⟨rfl, hp1⟩ | ⟨⟨T1, N1, rfl⟩, hp1⟩
    · rcases hp2 with ⟨rfl, hp2⟩ | ⟨⟨T2, N2, rfl⟩, hp2⟩
      · have E : ∀ n, IsMon s.data.toList n → y = n / 12 ∧ m = n % 12 + 1 := fun n h => ⟨ok_inj (hp1.symm.trans (mon_parse h).1), ok_inj (hp2.symm.trans (mon_parse h).2)⟩
        have E' := Lib.hid E
        clear E hp1 hp2
        by_cases hr : 0 ≤ y ∧ y ≤ 2999 ∧ 1 ≤ m ∧ m ≤ 12
        · have MO := Lib.hid (fun w => implMonthOf_any y m w)
          have V : mofV y m = 12 * y + m - 1 := by unfold mofV; rw [if_pos hr]
          have C : mofC y m = 0 := by unfold mofC; rw [if_pos hr]
          rw [V, C] at MO
          have E2 : Hid (∀ n, IsMon s.data.toList n → n = 12 * y + m - 1) := fun n h => by have := E'.out n h; omega
          have HT2 := Lib.hid (HT.out.below HB2.out)
          clear V C hr
          generalize 12 * y + m - 1 = N at *
          have MT := Lib.hid (fun w hT => implMonthText_any N B w hT)
          by_cases hA : monX N = s.data.toList
          · have R := Lib.hid (rmon_yes (mon_of_text (by rw [HL.out]; exact H7.out) hA))
            have Q1 : Hid (((S (monX N)).toList == s.toList) = true) := (Lib.bytes_beq_iff _ _).2 (by rw [hA]; rfl)
            clear hA
            generalize monX N = tx at *
            go_wp2_with fail
            refine (MO.out _).mono ?_; rintro e w3 ⟨rfl, rfl⟩
            go_wp2_with fail
            refine (MT.out _ HT2.out).mono ?_; rintro e w3 ⟨rfl, hb3⟩
            have q1 := Q1.out
            go_wp2
            go_ret2
            exact ⟨mon_ret R.out, bl HB2.out hb3⟩
          · have R := Lib.hid (rmon_no (l := s.data.toList) (fun n h => hA (by rw [← E2.out n h]; exact monX_of h)))
            have Q1 : Hid (((S (monX N)).toList == s.toList) = false) := (Lib.bytes_beq_false_iff _ _).2 (fun e => hA (by rw [← e]; exact (S_list _).symm))
            clear hA
            generalize monX N = tx at *
            go_wp2_with fail
            refine (MO.out _).mono ?_; rintro e w3 ⟨rfl, rfl⟩
            go_wp2_with fail
            refine (MT.out _ HT2.out).mono ?_; rintro e w3 ⟨rfl, hb3⟩
            have q1 := Q1.out
            go_wp2
            go_ret2
            exact ⟨mon_ret R.out, bl HB2.out hb3⟩
        · have R := Lib.hid (rmon_no (l := s.data.toList) (fun n h => by have := E'.out n h; obtain ⟨a, b, _⟩ := h; omega))
          have MO := Lib.hid (fun w => implMonthOf_any y m w)
          have C : mofC y m = 2 := by unfold mofC; rw [if_neg hr]
          rw [C] at MO
          clear hr C
          generalize mofV y m = N at *
          go_wp2_with fail
          refine (MO.out _).mono ?_; rintro e w3 ⟨rfl, rfl⟩
          go_wp2
          go_ret2
          exact ⟨mon_ret R.out, HB2.out⟩
      · have R := Lib.hid (rmon_no (l := s.data.toList) (fun n h => hp2 _ (mon_parse h).2))
        have MO := Lib.hid (fun w => implMonthOf_any y m w)
        clear hp1 hp2
        generalize mofV y m = N at *
        generalize mofC y m = K at *
        go_wp2_with fail
        refine (MO.out _).mono ?_; rintro e w3 ⟨rfl, rfl⟩
        go_wp2
        go_ret2
        exact ⟨mon_ret R.out, HB2.out⟩
    · have R := Lib.hid (rmon_no (l := s.data.toList) (fun n h => hp1 _ (mon_parse h).1))
      have MO := Lib.hid (fun w => implMonthOf_any y m w)
      clear hp1 hp2
      generalize mofV y m = N at *
      generalize mofC y m = K at *
      go_wp2_with fail
      refine (MO.out _).mono ?_; rintro e w3 ⟨rfl, rfl⟩
      go_wp2
      go_ret2
      exact ⟨mon_ret R.out, HB2.out⟩
  · have R := Lib.hid (rmon_no (mon_len (l := s.data.toList) (by rw [HL.out]; exact h7)))
    have h8 : s.size < 7 ∨ 7 < s.size := by omega
    clear h7
    rcases h8 with h8 | h8
    all_goals
      go_enter Tryd.func46, Tryd.ntmps46
      go_wp2
      go_ret2
      exact ⟨mon_ret R.out, Below.refl _ _⟩
end Go.Proofs.YtmngljpncglchaaDoor.MonthReads
