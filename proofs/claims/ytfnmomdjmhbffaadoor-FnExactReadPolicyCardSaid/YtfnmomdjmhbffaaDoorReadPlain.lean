/-
  Plain facts on reading decimal texts: the number that digits spell, ParseInt on digits, texts without zeros in front.
  Conditions: as each lemma says.
-/
import Derived.Test.YtfnmomdjmhbffaaDoorTextPlain
import Derived.Lib.ParseIntBCases
namespace Go.Proofs.YtfnmomdjmhbffaaDoor.ReadPlain
open Go TextPlain
set_option linter.unusedVariables false

/-- A digit; all bytes are digits. -/
def isD (c : UInt8) : Bool := decide (48 ≤ c.toNat ∧ c.toNat ≤ 57)
theorem isD_of {c : UInt8} (h : isD c = true) : 48 ≤ c.toNat ∧ c.toNat ≤ 57 := of_decide_eq_true h
def allD (l : List UInt8) : Prop := ∀ c ∈ l, isD c = true
theorem allD_nil : allD [] := fun c h => by cases h
theorem allD_cons {c : UInt8} {l : List UInt8} (h : allD (c :: l)) : isD c = true ∧ allD l := ⟨h c (by simp), fun d hd => h d (by simp [hd])⟩
theorem allD_app {l m : List UInt8} (h : allD l) (g : allD m) : allD (l ++ m) := fun c hc => by
  rcases List.mem_append.1 hc with a | a
  · exact h c a
  · exact g c a
theorem allD_left {l m : List UInt8} (h : allD (l ++ m)) : allD l := fun c hc => h c (List.mem_append.2 (.inl hc))
theorem allD_right {l m : List UInt8} (h : allD (l ++ m)) : allD m := fun c hc => h c (List.mem_append.2 (.inr hc))
theorem allD_one {c : UInt8} (h : isD c = true) : allD [c] := fun d hd => by simp at hd; subst hd; exact h

/-- What digits spell, behind a number that was read before. -/
def valF (a : Nat) (l : List UInt8) : Nat := l.foldl (fun a c => a * 10 + (c.toNat - 48)) a
def val (l : List UInt8) : Nat := valF 0 l
theorem valF_cons (a : Nat) (c : UInt8) (l : List UInt8) : valF a (c :: l) = valF (a * 10 + (c.toNat - 48)) l := by unfold valF; rw [List.foldl_cons]
theorem valF_app (a : Nat) (l m : List UInt8) : valF a (l ++ m) = valF (valF a l) m := by unfold valF; rw [List.foldl_append]
theorem valF_ge (l : List UInt8) : ∀ a, a ≤ valF a l := by
  induction l with
  | nil => intro a; exact Nat.le_refl _
  | cons c l ih => intro a; rw [valF_cons]; have := ih (a * 10 + (c.toNat - 48)); omega
theorem val_snoc (l : List UInt8) (c : UInt8) : val (l ++ [c]) = val l * 10 + (c.toNat - 48) := by unfold val; rw [valF_app]; rfl
theorem val_lt (l : List UInt8) (h : allD l) : ∀ a, valF a l < (a + 1) * 10 ^ l.length := by
  induction l with
  | nil => intro a; simp [valF]
  | cons c l ih =>
    intro a
    obtain ⟨hc, hl⟩ := allD_cons h
    have hc2 := isD_of hc
    rw [valF_cons]
    have h1 := ih hl (a * 10 + (c.toNat - 48))
    have h2 : (a * 10 + (c.toNat - 48) + 1) * 10 ^ l.length ≤ ((a + 1) * 10) * 10 ^ l.length := Nat.mul_le_mul_right _ (by omega)
    rw [List.length_cons, Nat.pow_succ, Nat.mul_comm (10 ^ l.length) 10, ← Nat.mul_assoc]
    exact Nat.lt_of_lt_of_le h1 h2

theorem parse_digits (M : Nat) (hM : M ≤ 18446744073709551615) (l : List UInt8) : ∀ a, allD l → valF a l ≤ M → Lib.parseUintM M a l = .ok (valF a l) := by
  induction l with
  | nil => intro a _ _; rfl
  | cons c l ih =>
    intro a h hv
    obtain ⟨hc, hl⟩ := allD_cons h
    have hc2 := isD_of hc
    rw [valF_cons] at hv ⊢
    have hg := valF_ge l (a * 10 + (c.toNat - 48))
    unfold Lib.parseUintM
    rw [if_pos hc2, if_neg (by omega), if_neg (by omega)]
    exact ih _ hl hv

theorem dch_nat (d : Nat) (h : d < 10) : (dch d).toNat = 48 + d := by unfold dch; rw [UInt8.toNat_ofNat']; omega
theorem dch_isD (d : Nat) (h : d < 10) : isD (dch d) = true := by unfold isD; rw [dch_nat d h]; exact decide_eq_true (by omega)
theorem isD_dch {c : UInt8} (h : isD c = true) : c = dch (c.toNat - 48) := by
  have := isD_of h
  apply UInt8.toNat_inj.1
  rw [dch_nat _ (by omega)]; omega

theorem dec_digits (n : Nat) : allD (Lib.decDigits n) ∧ val (Lib.decDigits n) = n ∧ Lib.decDigits n ≠ [] := by
  induction n using Nat.strongRecOn with
  | _ n ih =>
    by_cases h : n < 10
    · rw [d1 n h]
      exact ⟨allD_one (dch_isD n h), by show 0 * 10 + ((dch n).toNat - 48) = n; rw [dch_nat n h]; omega, by simp⟩
    · rw [dS n (by omega)]
      obtain ⟨h1, h2, h3⟩ := ih (n / 10) (by omega)
      exact ⟨allD_app h1 (allD_one (dch_isD _ (by omega))), by rw [val_snoc, h2, dch_nat _ (by omega)]; omega, by simp⟩
theorem dec_inj {a b : Nat} (h : Lib.decDigits a = Lib.decDigits b) : a = b := by rw [← (dec_digits a).2.1, h, (dec_digits b).2.1]

/-- Digits with no zero in front are the text of their number. -/
theorem canon (k : Nat) : ∀ (l : List UInt8), l.length = k → allD l → l ≠ [] → (1 < l.length → l.head? ≠ some 48) → l = Lib.decDigits (val l) := by
  induction k with
  | zero => intro l hl _ hne _; exact absurd (List.length_eq_zero_iff.1 hl) hne
  | succ k ih =>
    intro l hl hD hne hz
    obtain ⟨m, c, rfl⟩ : ∃ m c, l = m ++ [c] := ⟨l.dropLast, l.getLast hne, (List.dropLast_concat_getLast hne).symm⟩
    have hc := hD c (by simp)
    have hc2 := isD_of hc
    have hm := allD_left hD
    rw [val_snoc]
    cases m with
    | nil =>
      rw [show val [] = 0 from rfl, d1 _ (by omega)]
      rw [List.nil_append, Nat.zero_mul, Nat.zero_add, ← isD_dch hc]
    | cons d m =>
      have h1 := ih (d :: m) (by simp at hl ⊢; omega) hm (by simp) (fun _ => by have := hz (by simp); simpa using this)
      have h2 : 0 < val (d :: m) := by
        have hd := isD_of (allD_cons hm).1
        have hnz : d ≠ 48 := by have := hz (by simp); simpa using this
        have hnz2 : d.toNat ≠ 48 := fun e => hnz (UInt8.toNat_inj.1 e)
        have := valF_ge m (0 * 10 + (d.toNat - 48))
        unfold val; rw [valF_cons]; omega
      rw [dS _ (by omega)]
      have e1 : (val (d :: m) * 10 + (c.toNat - 48)) / 10 = val (d :: m) := by omega
      have e2 : (val (d :: m) * 10 + (c.toNat - 48)) % 10 = c.toNat - 48 := by omega
      rw [e1, e2, ← h1, ← isD_dch hc]

/-- ParseInt on digits, on digits behind a minus sign. -/
theorem parse_pos (l : List UInt8) (h : allD l) (hne : l ≠ []) (hv : val l < 9223372036854775808) : Lib.parseIntB 64 l = .ok (val l : Int) := by
  cases l with
  | nil => exact absurd rfl hne
  | cons c r =>
    have hc := isD_of (allD_cons h).1
    rw [Lib.parseIntB_plain 64 c r (by omega) (by omega)]
    unfold Lib.parseUintB
    rw [if_neg hne, parse_digits (2 ^ 64 - 1) (by decide) (c :: r) 0 h (by unfold val at hv; omega)]
    show (if 2 ^ (64 - 1) ≤ val (c :: r) then Lib.NumEnd.range else Lib.NumEnd.ok (val (c :: r) : Int)) = _
    rw [if_neg (by omega)]
theorem parse_neg (l : List UInt8) (h : allD l) (hne : l ≠ []) (hv : val l < 9223372036854775808) : Lib.parseIntB 64 (45 :: l) = .ok (-(val l : Int)) := by
  rw [Lib.parseIntB_minus]
  unfold Lib.parseUintB
  rw [if_neg hne, parse_digits (2 ^ 64 - 1) (by decide) l 0 h (by unfold val at hv; omega)]
  show (if 2 ^ (64 - 1) < val l then Lib.NumEnd.range else Lib.NumEnd.ok (-(val l : Int))) = _
  rw [if_neg (by omega)]
theorem parse_itoa (n : Int) (h0 : -9223372036854775807 ≤ n) (h1 : n ≤ 9223372036854775807) : Lib.parseIntB 64 (Lib.itoa n) = .ok n := by
  by_cases hn : n < 0
  · obtain ⟨m, rfl⟩ : ∃ m : Nat, n = -(m : Int) := ⟨(-n).toNat, by omega⟩
    obtain ⟨a, b, c⟩ := dec_digits m
    rw [Lib.itoa_neg m (by omega), parse_neg _ a c (by omega), b]
  · obtain ⟨m, rfl⟩ := Int.eq_ofNat_of_zero_le (show 0 ≤ n by omega)
    obtain ⟨a, b, c⟩ := dec_digits m
    rw [Lib.itoa_nonneg, parse_pos _ a c (by omega), b]
theorem parse_bd {l : List UInt8} {v : Int} (h : Lib.parseIntB 64 l = .ok v) : -9223372036854775808 ≤ v ∧ v ≤ 9223372036854775807 := by
  cases l with
  | nil => cases h
  | cons c r =>
    by_cases h45 : c.toNat = 45
    · obtain rfl : c = 45 := UInt8.toNat_inj.1 h45
      rw [Lib.parseIntB_minus] at h
      cases hp : Lib.parseUintB 64 r with
      | ok u =>
        rw [hp] at h; unfold Lib.signedC at h
        simp only at h
        split at h
        · cases h
        · injection h with h; have : (2 : Nat) ^ (64 - 1) = 9223372036854775808 := rfl; omega
      | _ => rw [hp] at h; cases h
    · have : Lib.parseIntB 64 (c :: r) = Lib.signlessC (2 ^ (64 - 1)) (Lib.parseUintB 64 (if c.toNat = 43 then r else c :: r)) := by
        by_cases h43 : c.toNat = 43
        · obtain rfl : c = 43 := UInt8.toNat_inj.1 h43
          rw [Lib.parseIntB_plus]; rfl
        · rw [Lib.parseIntB_plain 64 c r h43 h45, if_neg h43]
      rw [this] at h
      generalize (if c.toNat = 43 then r else c :: r) = q at h
      cases hp : Lib.parseUintB 64 q with
      | ok u =>
        rw [hp] at h; unfold Lib.signlessC at h
        simp only at h
        split at h
        · cases h
        · injection h with h; have : (2 : Nat) ^ (64 - 1) = 9223372036854775808 := rfl; omega
      | _ => rw [hp] at h; cases h

theorem itoa_inj {a b : Int} (ha : -9223372036854775807 ≤ a ∧ a ≤ 9223372036854775807) (hb : -9223372036854775807 ≤ b ∧ b ≤ 9223372036854775807) (h : Lib.itoa a = Lib.itoa b) : a = b := by
  have h1 := parse_itoa a ha.1 ha.2
  rw [h, parse_itoa b hb.1 hb.2] at h1
  injection h1 with h1
  exact h1.symm

/-- Only digits and a minus sign. -/
theorem itoa_chars (n : Int) : ∀ c ∈ Lib.itoa n, c = 45 ∨ isD c = true := by
  intro c hc
  unfold Lib.itoa at hc
  split at hc
  · rcases List.mem_cons.1 hc with h | h
    · exact .inl h
    · exact .inr ((dec_digits _).1 c h)
  · exact .inr ((dec_digits _).1 c hc)
theorem itoa_ne (n : Int) : Lib.itoa n ≠ [] := by
  unfold Lib.itoa
  split
  · simp
  · exact (dec_digits _).2.2
end Go.Proofs.YtfnmomdjmhbffaaDoor.ReadPlain
