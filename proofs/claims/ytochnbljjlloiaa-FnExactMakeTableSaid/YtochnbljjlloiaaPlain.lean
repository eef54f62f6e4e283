/-
  Plain facts on whole numbers and lists, with no program in sight: rounding, discounts, growth, searches.
  Conditions: as each lemma says.
-/
import Derived.Below
namespace Go.Proofs.Ytochnbljjlloiaa.Plain
set_option linter.unusedVariables false

/-! Rounding -/
theorem tdiv_neg_facts (a b : Int) (ha : a < 0) (hb : 0 < b) : a.tdiv b = -((-a) / b) ∧ a.tmod b = -((-a) % b) := by
  obtain ⟨x, rfl⟩ : ∃ x, a = -x := ⟨-a, by omega⟩
  have hx : 0 ≤ x := by omega
  rw [Int.neg_tdiv, Int.neg_tmod, Int.neg_neg, Int.tdiv_eq_ediv_of_nonneg hx, Int.tmod_eq_emod_of_nonneg hx]
  exact ⟨rfl, rfl⟩

theorem ediv_neg_exact (a b : Int) (ha : a < 0) (hb : 0 < b) (h : ¬ a.tmod b < 0) : a / b = a.tdiv b := by
  obtain ⟨h1, h2⟩ := tdiv_neg_facts a b ha hb
  rw [h1]
  have hr := Int.emod_nonneg (-a) (by omega : b ≠ 0)
  have e := Int.emod_add_mul_ediv (-a) b
  have hz : (-a) % b = 0 := by omega
  exact ((Int.ediv_emod_unique hb (r := 0) (q := -((-a) / b))).2 ⟨by rw [Int.mul_neg]; omega, by omega, hb⟩).1

theorem ediv_neg_down (a b : Int) (ha : a < 0) (hb : 0 < b) (h : a.tmod b < 0) : a / b = a.tdiv b - 1 := by
  obtain ⟨h1, h2⟩ := tdiv_neg_facts a b ha hb
  rw [h1]
  have hr := Int.emod_nonneg (-a) (by omega : b ≠ 0)
  have hl := Int.emod_lt_of_pos (-a) hb
  have e := Int.emod_add_mul_ediv (-a) b
  refine ((Int.ediv_emod_unique hb (r := b - (-a) % b) (q := -((-a) / b) - 1)).2 ⟨?_, by omega, by omega⟩).1
  rw [Int.mul_sub, Int.mul_neg, Int.mul_one]; omega

/-- A quotient lies between 0 and the number divided. -/
theorem div_bd (a b : Int) (ha : 0 ≤ a) (hb : 1 ≤ b) : 0 ≤ a / b ∧ a / b ≤ a :=
  ⟨Int.ediv_nonneg ha (by omega), Int.ediv_le_self b ha⟩
theorem tdiv_bd (a b : Int) (ha : a < 0) (hb : 1 ≤ b) : a ≤ a.tdiv b ∧ a.tdiv b ≤ 0 := by
  have h := (tdiv_neg_facts a b ha (by omega)).1
  have g := div_bd (-a) b (by omega) hb
  omega
theorem mod_bd (a b : Int) (hb : 1 ≤ b) : 0 ≤ a % b ∧ a % b < b := ⟨Int.emod_nonneg a (by omega), Int.emod_lt_of_pos a (by omega)⟩
theorem mul_bd (a b m n : Int) (ha : 0 ≤ a) (hm : a ≤ m) (hb : 0 ≤ b) (hn : b ≤ n) : 0 ≤ a * b ∧ a * b ≤ m * n :=
  ⟨Int.mul_nonneg ha hb, Int.mul_le_mul hm hn hb (by omega)⟩

/-- Rounded up: the least number that is no less than the fraction. -/
def upq (a b : Int) : Int := -((-a) / b)
theorem upq_bd (a b : Int) (ha : 0 ≤ a) (hb : 1 ≤ b) : 0 ≤ upq a b ∧ upq a b ≤ a := by
  unfold upq
  have h1 : (-a) / b ≤ 0 := Int.ediv_nonpos_of_nonpos_of_neg (by omega) (by omega)
  have h2 : -a ≤ (-a) / b := by
    rw [Int.le_ediv_iff_mul_le (by omega)]
    have : a * 1 ≤ a * b := Int.mul_le_mul_of_nonneg_left hb ha
    rw [Int.neg_mul]; omega
  omega
theorem upq_ge (a b : Int) (hb : 1 ≤ b) : a ≤ upq a b * b := by
  unfold upq
  have := Int.ediv_mul_le (-a) (by omega : b ≠ 0)
  rw [Int.neg_mul]; omega
theorem upq_lt (a b : Int) (hb : 1 ≤ b) : upq a b * b < a + b := by
  unfold upq
  have := Int.lt_ediv_add_one_mul_self (-a) (by omega : 0 < b)
  rw [Int.add_mul] at this
  rw [Int.neg_mul]; omega
theorem upq_le_of (a b c : Int) (hb : 1 ≤ b) (h : a ≤ c * b) : upq a b ≤ c := by
  unfold upq
  have : -c ≤ (-a) / b := by rw [Int.le_ediv_iff_mul_le (by omega), Int.neg_mul]; omega
  omega

/-! Discounts -/
def disc (r : Int) : Nat → Int
  | 0 => 1000000000
  | k + 1 => disc r k * 1000 / (1000 + r)
theorem disc_succ (r : Int) (k : Nat) : disc r (k + 1) = disc r k * 1000 / (1000 + r) := rfl
theorem disc_bd (r : Int) (h : 0 ≤ r) (k : Nat) : 0 ≤ disc r k ∧ disc r k ≤ 1000000000 := by
  induction k with
  | zero => simp [disc]
  | succ k ih =>
    rw [disc_succ]
    refine ⟨Int.ediv_nonneg (by omega) (by omega), ?_⟩
    refine Int.ediv_le_of_le_mul (by omega) ?_
    have : 1000000000 * 1000 ≤ 1000000000 * (1000 + r) := Int.mul_le_mul_of_nonneg_left (by omega) (by omega)
    omega
theorem disc_one (r : Int) (h : 0 ≤ r) (h2 : r ≤ 200) : 1 ≤ disc r 1 := by
  show 1 ≤ (1000000000 : Int) * 1000 / (1000 + r)
  rw [Int.le_ediv_iff_mul_le (by omega)]; omega
/-- The sum of n discounts, from the one after f years on. -/
def dsum (r : Int) (f : Nat) : Nat → Int
  | 0 => 0
  | n + 1 => dsum r f n + disc r (f + n)
theorem dsum_bd (r : Int) (h : 0 ≤ r) (f n : Nat) : 0 ≤ dsum r f n ∧ dsum r f n ≤ 1000000000 * n := by
  induction n with
  | zero => simp [dsum]
  | succ n ih => have := disc_bd r h (f + n); show 0 ≤ dsum r f n + disc r (f + n) ∧ dsum r f n + disc r (f + n) ≤ _; omega
theorem dsum_pos (r : Int) (h : 0 ≤ r) (h2 : r ≤ 200) (n : Nat) (hn : 1 ≤ n) : 1 ≤ dsum r 1 n := by
  induction n with
  | zero => omega
  | succ n ih =>
    show 1 ≤ dsum r 1 n + disc r (1 + n)
    have b := disc_bd r h (1 + n)
    by_cases e : n = 0
    · subst e; have g := disc_one r h h2; show 1 ≤ 0 + disc r 1; omega
    · have := ih (by omega); omega
/-- The discounts after 0 to n - 1 years. -/
def discs (r : Int) (n : Nat) : List Int := (List.range n).map (disc r)
theorem discs_length (r : Int) (n : Nat) : (discs r n).length = n := by simp [discs]
theorem discs_succ (r : Int) (n : Nat) : discs r (n + 1) = discs r n ++ [disc r n] := by simp [discs, List.range_succ]
theorem discs_get (r : Int) (n k : Nat) (h : k < n) : (discs r n).getD k 0 = disc r k := by simp [discs, h, List.getD]
theorem sum_discs (r : Int) (f n m : Nat) (h : f + n ≤ m) : (((discs r m).drop f).take n).sum = dsum r f n := by
  induction n with
  | zero => simp [dsum]
  | succ n ih =>
    have e : ((discs r m).drop f).take (n + 1) = ((discs r m).drop f).take n ++ [disc r (f + n)] := by
      rw [List.take_succ_eq_append_getElem (by simp [discs]; omega)]; simp [discs]
    rw [e, List.sum_append, ih (by omega)]; simp [dsum]

/-! Growth: an amount after some years; it stops as soon as it is greater than 1000000000000 -/
def gc (a r : Int) : Nat → Int
  | 0 => a
  | k + 1 => if gc a r k ≤ 1000000000000 then gc a r k + gc a r k * r / 1000 else gc a r k
theorem gc_yes (a r : Int) (k : Nat) (h : gc a r k ≤ 1000000000000) : gc a r (k + 1) = gc a r k + gc a r k * r / 1000 := by show (if _ then _ else _) = _; rw [if_pos h]
theorem gc_no (a r : Int) (k : Nat) (h : ¬ gc a r k ≤ 1000000000000) : gc a r (k + 1) = gc a r k := by show (if _ then _ else _) = _; rw [if_neg h]
theorem gc_stuck (a r : Int) (k n : Nat) (h : ¬ gc a r k ≤ 1000000000000) (hn : k ≤ n) : gc a r n = gc a r k := by
  induction n with
  | zero => have : k = 0 := by omega
            subst this; rfl
  | succ n ih =>
    by_cases e : k = n + 1
    · subst e; rfl
    · have hh := ih (by omega); rw [gc_no _ _ _ (by rw [hh]; exact h), hh]
theorem grow_step (g r : Int) (h0 : 0 ≤ g) (h1 : g ≤ 1000000000000) (hr : 0 ≤ r) (hr2 : r ≤ 200) : 0 ≤ g * r ∧ g * r ≤ 200000000000000 ∧ 0 ≤ g * r / 1000 ∧ g * r / 1000 ≤ 200000000000 := by
  have := mul_bd g r 1000000000000 200 h0 h1 hr hr2
  omega
theorem gc_bd (a r : Int) (ha : 0 ≤ a) (ha2 : a ≤ 1000000000000) (hr : 0 ≤ r) (hr2 : r ≤ 200) (k : Nat) : 0 ≤ gc a r k ∧ gc a r k ≤ 1200000000000 := by
  induction k with
  | zero => exact ⟨ha, by show a ≤ _; omega⟩
  | succ k ih =>
    by_cases h : gc a r k ≤ 1000000000000
    · have s := grow_step _ r ih.1 h hr hr2; rw [gc_yes _ _ _ h]; omega
    · rw [gc_no _ _ _ h]; exact ih
theorem gc_mono_year (a r : Int) (ha : 0 ≤ a) (ha2 : a ≤ 1000000000000) (hr : 0 ≤ r) (hr2 : r ≤ 200) (k : Nat) : gc a r k ≤ gc a r (k + 1) := by
  have b := gc_bd a r ha ha2 hr hr2 k
  by_cases h : gc a r k ≤ 1000000000000
  · have s := grow_step _ r b.1 h hr hr2; rw [gc_yes _ _ _ h]; omega
  · rw [gc_no _ _ _ h]; omega
theorem gc_mono (a r : Int) (ha : 0 ≤ a) (ha2 : a ≤ 1000000000000) (hr : 0 ≤ r) (hr2 : r ≤ 200) (k n : Nat) (h : k ≤ n) : gc a r k ≤ gc a r n := by
  induction n with
  | zero => have : k = 0 := by omega
            subst this; omega
  | succ n ih =>
    by_cases e : k = n + 1
    · subst e; omega
    · have := ih (by omega); have := gc_mono_year a r ha ha2 hr hr2 n; omega

/-! The first number with a property -/
def firstYes (p : Nat → Bool) : Nat → Nat → Option Nat
  | 0, _ => none
  | f + 1, k => if p k then some k else firstYes p f (k + 1)
theorem firstYes_hit (p : Nat → Bool) (f k : Nat) (h : p k = true) : firstYes p (f + 1) k = some k := by simp [firstYes, h]
theorem firstYes_miss (p : Nat → Bool) (f k : Nat) (h : p k = false) : firstYes p (f + 1) k = firstYes p f (k + 1) := by simp [firstYes, h]
def numOf : Option Nat → Int
  | some k => k
  | none => 0
def codeOf : Option Nat → Int
  | some _ => 0
  | none => 4
theorem firstYes_some (p : Nat → Bool) (f k j : Nat) (h : firstYes p f k = some j) : p j = true ∧ k ≤ j ∧ j < k + f ∧ ∀ i, k ≤ i → i < j → p i = false := by
  induction f generalizing k with
  | zero => simp [firstYes] at h
  | succ f ih =>
    by_cases e : p k = true
    · rw [firstYes_hit p f k e] at h
      obtain rfl : k = j := by simpa using h
      exact ⟨e, by omega, by omega, fun i h1 h2 => by omega⟩
    · have e' : p k = false := by simpa using e
      rw [firstYes_miss p f k e'] at h
      obtain ⟨h1, h2, h3, h4⟩ := ih (k + 1) h
      refine ⟨h1, by omega, by omega, fun i i1 i2 => ?_⟩
      by_cases ei : i = k
      · subst ei; exact e'
      · exact h4 i (by omega) i2
theorem firstYes_none (p : Nat → Bool) (f k : Nat) (h : firstYes p f k = none) : ∀ i, k ≤ i → i < k + f → p i = false := by
  induction f generalizing k with
  | zero => intro i h1 h2; omega
  | succ f ih =>
    by_cases e : p k = true
    · rw [firstYes_hit p f k e] at h; simp at h
    · have e' : p k = false := by simpa using e
      rw [firstYes_miss p f k e'] at h
      intro i h1 h2
      by_cases ei : i = k
      · subst ei; exact e'
      · exact ih (k + 1) h i (by omega) (by omega)
end Go.Proofs.Ytochnbljjlloiaa.Plain
