/-
  Contracts of the reference's readers of numbers: l01Digits, l01Signed.
  Conditions: none; the result is told by what it is good for (Dig, Sgn).
-/
import Derived.Test.YtfnmomdjmhbffaaDoorTexts
import Derived.Lib.SlicesS
import Derived.Test.YtfnmomdjmhbffaaDoorReadPlain2
namespace Go.Proofs.YtfnmomdjmhbffaaDoor.Reads
open Go.RowKit Mem Texts TextPlain ReadPlain
set_option linter.unusedVariables false

/-- What a reader of numbers from 0 to 9999999999999 returns. -/
def Dig (l : List UInt8) (w : World) (e : Ending) (w' : World) : Prop := ∃ (n : Int) (ok : Bool), e = .returned (.tuple #[.int .i64 n, .bool ok]) ∧ 0 ≤ n ∧ n < 10000000000000 ∧ (ok = true → l = Lib.itoa n) ∧ (∀ m : Int, 0 ≤ m → m < 10000000000000 → l = Lib.itoa m → ok = true ∧ n = m) ∧ Below w.heap.size w w'
theorem itoa_allD (m : Int) (h : 0 ≤ m) : allD (Lib.itoa m) ∧ val (Lib.itoa m) = m.toNat := by
  obtain ⟨k, rfl⟩ := Int.eq_ofNat_of_zero_le h
  rw [Lib.itoa_nonneg]; exact ⟨(dec_digits k).1, by rw [(dec_digits k).2.1]; simp⟩
theorem itoa13 (m : Int) (h : 0 ≤ m) (h2 : m < 10000000000000) : 1 ≤ (Lib.itoa m).length ∧ (Lib.itoa m).length ≤ 13 := by
  obtain ⟨k, rfl⟩ := Int.eq_ofNat_of_zero_le h
  rw [Lib.itoa_nonneg]
  exact ⟨List.length_pos_iff.2 (dec_digits k).2.2, nd_le 13 k (by omega) (by omega)⟩
theorem take_snocB (s : ByteArray) (k : Nat) (h : k < s.size) : s.data.toList.take (k + 1) = s.data.toList.take k ++ [s[k]] := by
  rw [List.take_succ_eq_append_getElem (by simpa using h)]; rfl
theorem val_pow (l : List UInt8) (h : allD l) (k : Nat) (hk : l.length ≤ k) : val l < 10 ^ k := by
  have h1 := val_lt l h 0
  rw [Nat.zero_add, Nat.one_mul] at h1
  exact Nat.lt_of_lt_of_le h1 (Nat.pow_le_pow_right (by omega) hk)
theorem dig_bad (l : List UInt8) (w : World) (h : l.length < 1 ∨ 13 < l.length ∨ ¬ allD l) : Dig l w (.returned (.tuple #[.int .i64 0, .bool false])) w :=
  ⟨0, false, rfl, by omega, by omega, (fun e => by cases e), (fun m h1 h2 e => by
    subst e
    have := itoa13 m h1 h2
    rcases h with h | h | h
    · omega
    · omega
    · exact absurd (itoa_allD m h1).1 h), Below.refl _ _⟩

set_option maxHeartbeats 1000000 in
set_option maxRecDepth 100000 in
theorem l01Digits_any (s : ByteArray) (w : World) (hs : s.size ≤ 9223372036854775807) :
    Calls Tryd.prog 24 #[.string s] w (Dig s.data.toList w) := by
  by_cases h1 : s.size < 1 ∨ 13 < s.size
  · have B := Lib.hid (dig_bad s.data.toList w (by rw [show s.data.toList.length = s.size by simp]; omega))
    have h2 : s.size < 1 ∨ 13 < s.size := h1
    clear h1
    rcases h2 with h2 | h2
    · go_enter Tryd.func24, Tryd.ntmps24
      go_wp2
      go_ret2
      exact B.out
    · go_enter Tryd.func24, Tryd.ntmps24
      go_wp2
      go_ret2
      exact B.out
  · have h2 : 1 ≤ s.size := by omega
    have h3 : s.size ≤ 13 := by omega
    clear h1
    have hlen : s.data.toList.length = s.size := by simp
    have HL := Lib.hid hlen
    clear hlen
    go_enter Tryd.func24, Tryd.ntmps24
    go_wp2
    go_loop [4, 5] (fun n i => ∃ (k v : Nat), k ≤ s.size ∧ i = .int .i64 k ∧ n = .int .i64 v ∧ Hid (v = val (s.data.toList.take k) ∧ allD (s.data.toList.take k))) (fun _ i => s.size - (intOf i).toNat)
    case atStart => exact ⟨0, 0, by omega, rfl, rfl, rfl, allD_nil⟩
    case round =>
      obtain ⟨k, v, hk, rfl, rfl, H⟩ := hrel
      have hv : v < 10000000000000 := by
        rw [H.out.1]; exact val_pow _ H.out.2 13 (by rw [List.length_take]; omega)
      by_cases hlt : k < s.size
      · have hv2 : v < 1000000000000 := by
          rw [H.out.1]; exact val_pow _ H.out.2 12 (by rw [List.length_take]; omega)
        have TS := Lib.hid (take_snocB s k hlt)
        by_cases hd : 48 ≤ (s[k].toNat : Int) ∧ (s[k].toNat : Int) ≤ 57
        · have HN : Hid (v * 10 + (s[k].toNat - 48) = val (s.data.toList.take (k + 1)) ∧ allD (s.data.toList.take (k + 1))) := by
            show _ ∧ _
            rw [TS.out, val_snoc, ← H.out.1]
            exact ⟨rfl, allD_app H.out.2 (allD_one (decide_eq_true (by omega)))⟩
          obtain ⟨hd1, hd2⟩ := hd
          go_wp2
          go_round
          case rel => exact ⟨k + 1, v * 10 + (s[k].toNat - 48), by omega, by go_num, by congr 1; omega, HN.out⟩
          case measure => simp [intOf]; omega
        · have B := Lib.hid (dig_bad s.data.toList w (.inr (.inr fun ha => by
            have : isD s[k] = true := ha _ (by have := List.getElem_mem (l := s.data.toList) (n := k) (by simpa using hlt); exact this)
            have := isD_of this
            omega)))
          have hd2 : (s[k].toNat : Int) < 48 ∨ 57 < (s[k].toNat : Int) := by omega
          clear hd
          go_wp2
          all_goals
            go_ret2
            exact B.out
      · obtain rfl : k = s.size := by omega
        have H2 : Hid (v = val s.data.toList ∧ allD s.data.toList) := by
          have := H.out; rw [List.take_of_length_le (by rw [HL.out]; exact Nat.le_refl _)] at this; exact this
        have C := Lib.hid (fun w => dec v w (by omega) (by omega))
        go_wp2_with fail
        refine (C.out _).mono ?_; rintro e w1 ⟨rfl, hb⟩
        go_wp2
        go_ret2
        refine ⟨v, _, rfl, by omega, by omega, (fun e => ?_), (fun m h1 h2 e => ?_), hb⟩
        · have := congrArg (fun b : ByteArray => b.data.toList) ((Lib.bytes_beq_iff _ _).1 e)
          simp only [S_list] at this
          exact this.symm
        · have e2 : v = m.toNat := by rw [H2.out.1, e]; exact (itoa_allD m h1).2
          have e3 : (v : Int) = m := by omega
          refine ⟨(Lib.bytes_beq_iff _ _).2 ?_, e3⟩
          rw [e3, ← e]; exact S_eq s

/-- What a reader of numbers between -9999999999999 and 9999999999999 returns. -/
def Sgn (l : List UInt8) (w : World) (e : Ending) (w' : World) : Prop := ∃ (n : Int) (ok : Bool), e = .returned (.tuple #[.int .i64 n, .bool ok]) ∧ -10000000000000 < n ∧ n < 10000000000000 ∧ (ok = true → l = Lib.itoa n) ∧ (∀ m : Int, -10000000000000 < m → m < 10000000000000 → l = Lib.itoa m → ok = true ∧ n = m) ∧ Below w.heap.size w w'
theorem itoa_head (m : Int) : (Lib.itoa m).head? = some 45 ↔ m < 0 := by
  by_cases h : m < 0
  · unfold Lib.itoa; rw [if_pos h]; simp [h]
  · constructor
    · intro g
      unfold Lib.itoa at g
      rw [if_neg h] at g
      have := (dec_digits m.toNat).1 45 (List.mem_of_mem_head? (by rw [g]; rfl))
      cases this
    · intro g; exact absurd g h
theorem itoa_neg1 (n : Int) (h : 0 < n) : Lib.itoa (-n) = 45 :: Lib.itoa n := by
  obtain ⟨k, rfl⟩ := Int.eq_ofNat_of_zero_le (show 0 ≤ n by omega)
  rw [Lib.itoa_neg k (by omega), Lib.itoa_nonneg]
theorem head_byte (s : ByteArray) (h : 0 < s.size) : ∃ r, s.data.toList = s[0] :: r := by
  have e := take_snocB s 0 h
  cases hl : s.data.toList with
  | nil => have : s.data.toList.length = s.size := by simp
           rw [hl] at this; simp at this; omega
  | cons a r => rw [hl] at e; exact ⟨r, by congr 1; simpa using e⟩

set_option maxHeartbeats 1000000 in
set_option maxRecDepth 100000 in
theorem l01Signed_any (s : ByteArray) (w : World) (hs : s.size ≤ 1048576) :
    Calls Tryd.prog 14 #[.string s] w (Sgn s.data.toList w) := by
  have plain : ¬ s.data.toList.head? = some 45 → ∀ e w', Dig s.data.toList w e w' → Sgn s.data.toList w e w' := fun h45 e w' ⟨n, ok, he, n0, n1, h1, h2, hb⟩ =>
    ⟨n, ok, he, by omega, n1, h1, fun m _ m1 hm => h2 m (by
      rcases Int.lt_or_le m 0 with g | g
      · exact absurd (by rw [hm]; exact (itoa_head m).2 g) h45
      · exact g) m1 hm, hb⟩
  have PL := Lib.hid plain
  have D := Lib.hid (l01Digits_any s w (by omega))
  clear plain
  by_cases h0 : s.size = 0
  · have hl : s.data.toList = [] := List.length_eq_zero_iff.1 (by rw [show s.data.toList.length = s.size by simp]; exact h0)
    have K := Lib.hid (PL.out (by rw [hl]; simp))
    obtain rfl : s = ⟨#[]⟩ := by rw [← S_eq s, hl]; rfl
    clear hl h0 PL
    go_enter Tryd.func14, Tryd.ntmps14
    go_wp2_with fail
    refine D.out.mono ?_; rintro e w1 hd
    have hk := K.out _ _ hd
    obtain ⟨n, ok, rfl, r1⟩ := hd
    have HK := Lib.hid hk
    clear r1 hk K D
    go_wp2
    go_ret2
    exact HK.out
  · have hpos : 0 < s.size := by omega
    obtain ⟨r, hr⟩ := head_byte s hpos
    have HR := Lib.hid hr
    by_cases h45 : s[0].toNat = 45
    · have hz : (s[0].toNat : Int) = 45 := by omega
      have hb45 : s[0] = 45 := UInt8.toNat_inj.1 h45
      have E1 : Hid ((s.extract 1 s.size).data.toList = r) := by show _ = _; rw [Lib.extract_to_end, hr]; rfl
      have E2 : Hid (s.data.toList = 45 :: r) := by show _ = _; rw [hr, hb45]
      have D2 := Lib.hid (l01Digits_any (s.extract 1 s.size) w (by rw [Lib.size_eq, E1.out]; have := congrArg List.length hr; rw [show s.data.toList.length = s.size by simp] at this; simp at this; omega))
      rw [E1.out] at D2
      clear hr hb45 h45 h0 PL D E1
      go_enter Tryd.func14, Tryd.ntmps14
      go_wp2_with fail
      refine D2.out.mono ?_; rintro e w1 ⟨n, ok, rfl, n0, n1, h1, h2, hb⟩
      have H : Hid (∀ m : Int, -10000000000000 < m → m < 10000000000000 → s.data.toList = Lib.itoa m → ok = true ∧ n = -m ∧ 0 < n) := fun m m0 m1 hm => by
        have hneg : m < 0 := (itoa_head m).1 (by rw [← hm, E2.out]; rfl)
        have e2 : Lib.itoa m = 45 :: Lib.itoa (-m) := by have := itoa_neg1 (-m) (by omega); rwa [Int.neg_neg] at this
        rw [E2.out, e2] at hm
        injection hm with _ hm
        have := h2 (-m) (by omega) (by omega) hm
        exact ⟨this.1, this.2, by omega⟩
      have H1 := Lib.hid h1
      have HB := Lib.hid hb
      clear h1 h2 hb
      cases ok with
      | true =>
        by_cases hn : 0 < n
        · go_wp2
          go_ret2
          exact ⟨-n, true, rfl, by omega, by omega, (fun _ => by rw [E2.out, itoa_neg1 n hn, ← H1.out (by trivial)]), (fun m m0 m1 hm => ⟨rfl, by have := (H.out m m0 m1 hm).2.1; omega⟩), HB.out⟩
        · obtain rfl : n = 0 := by omega
          go_wp2
          go_ret2
          exact ⟨0, false, rfl, by omega, by omega, (fun h => by cases h), (fun m m0 m1 hm => by have := (H.out m m0 m1 hm).2.2; omega), HB.out⟩
      | false =>
        go_wp2
        go_ret2
        exact ⟨-n, false, rfl, by omega, by omega, (fun h => by cases h), (fun m m0 m1 hm => by have := (H.out m m0 m1 hm).1; cases this), HB.out⟩
    · have hz : ((s[0].toNat : Int) == 45) = false := beq_eq_false_iff_ne.2 (by omega)
      have K := Lib.hid (PL.out (by rw [hr]; intro e; simp at e; exact h45 (by rw [e]; rfl)))
      clear hr h45 h0 PL
      go_enter Tryd.func14, Tryd.ntmps14
      go_wp2_with fail
      refine D.out.mono ?_; rintro e w1 hd
      have hk := K.out _ _ hd
      obtain ⟨n, ok, rfl, r1⟩ := hd
      have HK := Lib.hid hk
      clear r1 hk K D
      go_wp2
      go_ret2
      exact HK.out
end Go.Proofs.YtfnmomdjmhbffaaDoor.Reads
