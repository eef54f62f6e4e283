/-
  Contracts of the reference's readers of numbers: l01Digits, l01Signed.
  Conditions: none; the result is told by what it is good for (Dig, Sgn).
-/
import Derived.Test.YtmngljpncglchaaDoorTexts
import Derived.Lib.SlicesS
import Derived.Test.YtmngljpncglchaaDoorReadPlain2
namespace Go.Proofs.YtmngljpncglchaaDoor.Reads
open Go.RowKit Mem Texts TextPlain ReadPlain
set_option linter.unusedVariables false

/-- What a reader of numbers from 0 to 9999999999999 returns. -/
def Dig (l : List UInt8) (w : World) (e : Ending) (w' : World) : Prop := ∃ (n : Int) (ok : Bool), e = .returned (.tuple #[.int .i64 n, .bool ok]) ∧ 0 ≤ n ∧ n < 10000000000000 ∧ (ok = true → l = Lib.itoa n) ∧ (∀ m : Int, 0 ≤ m → m < 10000000000000 → l = Lib.itoa m → ok = true ∧ n = m) ∧ Below w.heap.size w w'
theorem itoa_allD (m : Int) (h : 0 ≤ m) : allD (Lib.itoa m) ∧ val (Lib.itoa m) = m.toNat := by
  obtain ⟨k, rfl⟩ := Int.eq_ofNat_of_zero_le h
  rw [Lib.itoa_nonneg]; exact ⟨(dec_digits k).1, by rw [(dec_digits k).2.1]; simp⟩
theorem itoa13 (m : Int) (h : 0 ≤ m) (h2 : m < 10000000000000) : 1 ≤ (Lib.itoa m).length ∧ (Lib.itoa m).length ≤ 13 := by
  obtain ⟨k, rfl⟩ := Int.eq_ofNat_of_zero_le h
  rw [Lib.itoa_nonneg]
  exact ⟨List.length_pos_iff.2 (dec_digits k).2.2, nd_le 13 k (by omega) (by omega)⟩
theorem take_snocB (s : ByteArray) (k : Nat) (h : k < s.size) : s.data.toList.take (k + 1) = s.data.toList.take k ++ [s[k]] := by
  rw [List.take_succ_eq_append_getElem (by simpa using h)]; rfl
theorem val_pow (l : List UInt8) (h : allD l) (k : Nat) (hk : l.length ≤ k) : val l < 10 ^ k := by
  have h1 := val_lt l h 0
  rw [Nat.zero_add, Nat.one_mul] at h1
  exact Nat.lt_of_lt_of_le h1 (Nat.pow_le_pow_right (by omega) hk)
theorem dig_bad (l : List UInt8) (w : World) (h : l.length < 1 ∨ 13 < l.length ∨ ¬ allD l) : Dig l w (.returned (.tuple #[.int .i64 0, .bool false])) w :=
  ⟨0, false, rfl, by omega, by omega, (fun e => by cases e), (fun m h1 h2 e => by
    subst e
    have := itoa13 m h1 h2
    rcases h with h | h | h
    · omega
    · omega
    · exact absurd (itoa_allD m h1).1 h), Below.refl _ _⟩

set_option maxHeartbeats 1000000 in
set_option maxRecDepth 100000 in
theorem l01Digits_any (s : ByteArray) (w : World) (hs : s.size ≤ 9223372036854775807) :
    Calls Tryd.prog 62 #[.string s] w (Dig s.data.toList w) := by
  by_cases h1 : s.size < 1 ∨ 13 < s.size
  · have B := Lib.hid (dig_bad s.data.toList w (by rw [show s.data.toList.length = s.size by simp]; omega))
    have h2 : s.size < 1 ∨ 13 < s.size := h1
    clear h1
    rcases h2 with h2 | h2
    · go_enter Tryd.func62, Tryd.ntmps62
      go_wp2
      go_ret2
      exact B.out
    · go_enter Tryd.func62, Tryd.ntmps62
      go_wp2
      go_ret2
      exact B.out
  · have h2 : 1 ≤ s.size := by omega
    have h3 : s.size ≤ 13 := by omega
    clear h1
    have hlen : s.data.toList.length = s.size := by simp
    have HL := Lib.hid hlen
    clear hlen
    go_enter Tryd.func62, Tryd.ntmps62
    go_wp2
    go_loop [4, 5] (fun n i => ∃ (k v : Nat), k ≤ s.size ∧ i = .int .i64 k ∧ n = .int .i64 v ∧ Hid (v = val (s.data.toList.take k) ∧ allD (s.data.toList.take k))) (fun _ i => s.size - (intOf i).toNat)
    case atStart => exact ⟨0, 0, by omega, rfl, rfl, rfl, allD_nil⟩
    case round =>
      obtain ⟨k, v, hk, rfl, rfl, H⟩ := hrel
      have hv : v < 10000000000000 := by
        rw [H.out.1]; exact val_pow _ H.out.2 13 (by rw [List.length_take]; omega)
      by_cases hlt : k < s.size
      · have hv2 : v < 1000000000000 := by
          rw [H.out.1]; exact val_pow _ H.out.2 12 (by rw [List.length_take]; omega)
        have TS := Lib.hid (take_snocB s k hlt)
        by_cases hd : 48 ≤ (s[k].toNat : Int) ∧ (s[k].toNat : Int) ≤ 57
        · have HN : Hid (v * 10 + (s[k].toNat - 48) = val (s.data.toList.take (k + 1)) ∧ allD (s.data.toList.take (k + 1))) := by
            show _ ∧ _
            rw [TS.out, val_snoc, ← H.out.1]
            exact ⟨rfl, allD_app H.out.2 (allD_one (decide_eq_true (by omega)))⟩
          obtain ⟨hd1, hd2⟩ := hd
          go_wp2
          go_round
          case rel => exact ⟨k + 1, v * 10 + (s[k].toNat - 48), by omega, by go_num, by congr 1; omega, HN.out⟩
          case measure => simp [intOf]; omega
        · have B := Lib.hid (dig_bad s.data.toList w (.inr (.inr fun ha => by
            have : isD s[k] = true := ha _ (by have := List.getElem_mem (l := s.data.toList) (n := k) (by simpa using hlt); exact this)
            have := isD_of this
            omega)))
          have hd2 : (s[k].toNat : Int) < 48 ∨ 57 < (s[k].toNat : Int) := by omega
          clear hd
          go_wp2
          all_goals
            go_ret2
            exact B.out
      · obtain rfl : k = s.size := by omega
        have H2 : Hid (v = val s.data.toList ∧ allD s.data.toList) := by
          have := H.out; rw [List.take_of_length_le (by rw [HL.out]; exact Nat.le_refl _)] at this; exact this
        have C := Lib.hid (fun w => dec v w (by omega) (by omega))
        go_wp2_with fail
        refine (C.out _).mono ?_; rintro e w1 ⟨rfl, hb⟩
        go_wp2
        go_ret2
        refine ⟨v, _, rfl, by omega, by omega, (fun e => ?_), (fun m h1 h2 e => ?_), hb⟩
        · have := congrArg (fun b : ByteArray => b.data.toList) ((Lib.bytes_beq_iff _ _).1 e)
          simp only [S_list] at this
          exact this.symm
        · have e2 : v = m.toNat := by rw [H2.out.1, e]; exact (itoa_allD m h1).2
          have e3 : (v : Int) = m := by omega
          refine ⟨(Lib.bytes_beq_iff _ _).2 ?_, e3⟩
          rw [e3, ← e]; exact S_eq s
end Go.Proofs.YtmngljpncglchaaDoor.Reads
