/-
  Plain facts on splitting a text at a byte, on joining, on replacing one byte, on money and months read back.
  Conditions: as each lemma says.
-/
import Derived.Test.YtfnmomdjmhbffaaDoorReadPlain
import Derived.Lib.Split
import Derived.Lib.SplitLaws
import Derived.Lib.Replace
import Derived.Lib.IndexLaws
import Derived.Lib.Join
namespace Go.Proofs.YtfnmomdjmhbffaaDoor.ReadPlain
open Go TextPlain
set_option linter.unusedVariables false

/-- A text cut at every instance of a byte. -/
def splitC (c : UInt8) : List UInt8 → List (List UInt8)
  | [] => [[]]
  | x :: l => if x = c then [] :: splitC c l else match splitC c l with
    | [] => [[x]]
    | h :: t => (x :: h) :: t
theorem splitC_ne (c : UInt8) (l : List UInt8) : splitC c l ≠ [] := by
  cases l with
  | nil => simp [splitC]
  | cons x l =>
    unfold splitC
    split
    · simp
    · split <;> simp
theorem splitC_hit (c : UInt8) (m r : List UInt8) (h : c ∉ m) : splitC c (m ++ c :: r) = m :: splitC c r := by
  induction m with
  | nil => simp [splitC]
  | cons x m ih =>
    have hx : x ≠ c := fun e => h (by simp [e])
    have := ih (fun e => h (by simp [e]))
    rw [List.cons_append, splitC, if_neg hx, this]
theorem splitC_none (c : UInt8) (m : List UInt8) (h : c ∉ m) : splitC c m = [m] := by
  induction m with
  | nil => rfl
  | cons x m ih =>
    have hx : x ≠ c := fun e => h (by simp [e])
    rw [splitC, if_neg hx, ih (fun e => h (by simp [e]))]
theorem cut_at (c : UInt8) (l : List UInt8) (h : c ∈ l) : ∃ m r, l = m ++ c :: r ∧ c ∉ m := by
  induction l with
  | nil => cases h
  | cons x l ih =>
    by_cases e : x = c
    · exact ⟨[], l, by simp [e], by simp⟩
    · rcases List.mem_cons.1 h with h | h
      · exact absurd h.symm e
      · obtain ⟨m, r, h1, h2⟩ := ih h
        exact ⟨x :: m, r, by simp [h1], fun g => by rcases List.mem_cons.1 g with g | g; exact e g.symm; exact h2 g⟩

theorem occ_one (s : List UInt8) (c : UInt8) (j : Nat) : Lib.occAt s [c] j = true ↔ s[j]? = some c := by
  have e : s[j]? = (s.drop j)[0]? := by rw [List.getElem?_drop, Nat.add_zero]
  unfold Lib.occAt
  rw [e]
  cases h : s.drop j with
  | nil => simp [List.isPrefixOf]
  | cons x l => simp [List.isPrefixOf]; exact eq_comm
theorem occ_none {s : List UInt8} {c : UInt8} (h : c ∉ s) (j : Nat) : Lib.occAt s [c] j = false := by
  cases e : Lib.occAt s [c] j with
  | false => rfl
  | true => exact absurd (List.mem_of_getElem? ((occ_one s c j).1 e)) h
theorem index_none1 {s : List UInt8} {c : UInt8} (h : c ∉ s) : Lib.index s [c] = -1 := Lib.index_none fun j _ => occ_none h j
theorem index_hit1 (m r : List UInt8) {c : UInt8} (h : c ∉ m) : Lib.index (m ++ c :: r) [c] = (m.length : Int) := by
  refine Lib.index_first (by simp) ((occ_one _ _ _).2 (by simp)) fun j hj => ?_
  cases e : Lib.occAt (m ++ c :: r) [c] j with
  | false => rfl
  | true =>
    have := (occ_one _ _ _).1 e
    rw [List.getElem?_append_left hj] at this
    exact absurd (List.mem_of_getElem? this) h

/-- The library's Split at one byte. -/
theorem split_eq (c : UInt8) (k : Nat) : ∀ s : List UInt8, s.length ≤ k → Lib.split s [c] = splitC c s := by
  induction k with
  | zero =>
    intro s hs
    obtain rfl : s = [] := List.length_eq_zero_iff.1 (by omega)
    unfold Lib.split; rw [Lib.count_one]; rfl
  | succ k ih =>
    intro s hs
    by_cases h : c ∈ s
    · obtain ⟨m, r, rfl, hm⟩ := cut_at c s h
      have e1 : Lib.count (m ++ c :: r) [c] = Lib.count r [c] + 1 := by
        rw [Lib.count_one, Lib.count_one, List.count_append, List.count_eq_zero.2 hm]; simp
      have e2 := index_hit1 m r hm
      have ih2 := ih r (by simp at hs; omega)
      unfold Lib.split at ih2 ⊢
      rw [e1, Lib.splitK, if_neg (by rw [e2]; simp), e2, Int.toNat_natCast, splitC_hit c m r hm]
      have e3 : (m ++ c :: r).take (m.length + 0) = m := by simp
      have e4 : (m ++ c :: r).drop (m.length + [c].length) = r := by simp
      rw [e3, e4, ih2]
    · unfold Lib.split
      rw [Lib.count_one, List.count_eq_zero.2 h, splitC_none c s h]; rfl

/-- Words without the byte, joined by it, split into themselves; what is split joins again. -/
theorem split_join (c : UInt8) (ws : List (List UInt8)) (hne : ws ≠ []) (h : ∀ x ∈ ws, c ∉ x) : splitC c (Lib.join ws [c]) = ws := by
  induction ws with
  | nil => exact absurd rfl hne
  | cons a l ih =>
    cases l with
    | nil => rw [Lib.join_one, splitC_none c a (h a (by simp))]
    | cons b l =>
      have e : Lib.join (a :: b :: l) [c] = a ++ c :: Lib.join (b :: l) [c] := by
        rw [Lib.join_cons, Lib.join_cons]; simp [Lib.joinTail]
      rw [e, splitC_hit c a _ (h a (by simp)), ih (by simp) (fun x hx => h x (by simp [hx]))]
theorem join_split (c : UInt8) (s : List UInt8) : Lib.join (splitC c s) [c] = s := by
  induction s with
  | nil => simp [splitC, Lib.join_one]
  | cons x l ih =>
    unfold splitC
    split
    · rename_i e
      subst e
      cases h : splitC x l with
      | nil => exact absurd h (splitC_ne x l)
      | cons a t =>
        rw [h] at ih
        rw [Lib.join_cons] at ih ⊢
        simp [Lib.joinTail] at ih ⊢
        exact ih
    · split
      · rename_i h; exact absurd h (splitC_ne c l)
      · rename_i a t h
        rw [h, Lib.join_cons] at ih
        rw [Lib.join_cons, List.cons_append, ih]
theorem itoa_no (c : UInt8) (h : c = 32 ∨ c = 44) (n : Int) : c ∉ Lib.itoa n := fun g => by
  rcases itoa_chars n c g with e | e
  · subst e; rcases h with h | h <;> cases h
  · rcases h with rfl | rfl <;> cases e

/-- The library's Replace of one instance of a byte by nothing. -/
theorem replace_one (m r : List UInt8) (c : UInt8) (h : c ∉ m) : Lib.replace (m ++ c :: r) [c] [] 1 = m ++ r := by
  have e1 : 1 ≤ Lib.count (m ++ c :: r) [c] := by rw [Lib.count_one, List.count_append]; simp; omega
  unfold Lib.replace
  rw [if_neg (by simp)]
  have e2 : Lib.replaceNum (m ++ c :: r) [c] 1 = 1 := by
    unfold Lib.replaceNum; rw [if_neg (by omega)]; rfl
  rw [e2, Lib.replaceK_hit [c] [] 0 _ m.length (index_hit1 m r h)]
  simp [Lib.replaceK]
/-- The library's ReplaceAll of a byte by another one, over words joined by it. -/
theorem replaceK_all (c d : UInt8) (k : Nat) : ∀ s : List UInt8, s.length ≤ k → Lib.replaceK [c] [d] (s.count c) s = Lib.join (splitC c s) [d] := by
  induction k with
  | zero =>
    intro s hs
    obtain rfl : s = [] := List.length_eq_zero_iff.1 (by omega)
    simp [Lib.replaceK, splitC, Lib.join_one]
  | succ k ih =>
    intro s hs
    by_cases h : c ∈ s
    · obtain ⟨m, r, rfl, hm⟩ := cut_at c s h
      have e1 : (m ++ c :: r).count c = r.count c + 1 := by rw [List.count_append, List.count_eq_zero.2 hm]; simp
      have ih2 := ih r (by simp at hs; omega)
      rw [e1, Lib.replaceK_hit [c] [d] _ _ m.length (index_hit1 m r hm), splitC_hit c m r hm]
      have e3 : (m ++ c :: r).take m.length = m := by simp
      have e4 : (m ++ c :: r).drop (m.length + [c].length) = r := by simp
      rw [e3, e4, ih2]
      cases hsp : splitC c r with
      | nil => exact absurd hsp (splitC_ne c r)
      | cons a t => rw [Lib.join_cons, Lib.join_cons]; simp [Lib.joinTail]
    · rw [List.count_eq_zero.2 h, splitC_none c s h, Lib.join_one]; rfl
theorem replaceAll_eq (c d : UInt8) (hcd : c ≠ d) (s : List UInt8) : Lib.replaceAll s [c] [d] = Lib.join (splitC c s) [d] := by
  unfold Lib.replaceAll Lib.replace
  rw [if_neg (by simp; exact hcd)]
  have : Lib.replaceNum s [c] (-1) = s.count c := by unfold Lib.replaceNum; rw [if_pos (by omega), Lib.count_one]
  rw [this]
  exact replaceK_all c d s.length s (Nat.le_refl _)

/-- The digits of a text; the same without zeros in front. -/
def digF (l : List UInt8) : List UInt8 := l.filter isD
def strip : List UInt8 → List UInt8
  | [] => []
  | [x] => [x]
  | x :: y :: l => if x = 48 then strip (y :: l) else x :: y :: l
theorem digF_all (l : List UInt8) : allD (digF l) := fun c h => (List.mem_filter.1 h).2
theorem digF_id (l : List UInt8) (h : allD l) : digF l = l := List.filter_eq_self.2 h
theorem digF_app (l m : List UInt8) : digF (l ++ m) = digF l ++ digF m := List.filter_append ..
theorem digF_len (l : List UInt8) : (digF l).length ≤ l.length := List.length_filter_le ..
theorem strip_len (l : List UInt8) : (strip l).length ≤ l.length := by
  induction l with
  | nil => simp [strip]
  | cons x l ih =>
    cases l with
    | nil => simp [strip]
    | cons y l =>
      unfold strip
      split
      · simp at ih ⊢; omega
      · simp
theorem strip_dec (l : List UInt8) (h : allD l) (hne : l ≠ []) : strip l = Lib.decDigits (val l) := by
  induction l with
  | nil => exact absurd rfl hne
  | cons x l ih =>
    cases l with
    | nil => exact canon 1 [x] rfl h hne (by simp)
    | cons y l =>
      unfold strip
      split
      · rename_i e
        subst e
        rw [ih (allD_cons h).2 (by simp)]
        rfl
      · rename_i e
        exact canon _ _ rfl h (by simp) (fun _ => by simp; exact e)

theorem pad2_dig (k : Nat) (h : k < 100) : allD (pad (k : Int) 2) ∧ (∀ a, valF a (pad (k : Int) 2) = a * 100 + k) ∧ (pad (k : Int) 2).length = 2 := by
  rw [pad2 k h]
  refine ⟨allD_app (allD_one (dch_isD _ (by omega))) (allD_one (dch_isD _ (by omega))), fun a => ?_, rfl⟩
  show (a * 10 + ((dch (k / 10)).toNat - 48)) * 10 + ((dch (k % 10)).toNat - 48) = _
  rw [dch_nat _ (by omega), dch_nat _ (by omega)]; omega
theorem pad4_dig (k : Nat) (h : k < 10000) : allD (pad (k : Int) 4) ∧ (∀ a, valF a (pad (k : Int) 4) = a * 10000 + k) ∧ (pad (k : Int) 4).length = 4 := by
  rw [pad4 k h]
  refine ⟨fun c hc => ?_, fun a => ?_, rfl⟩
  · simp at hc
    rcases hc with rfl | rfl | rfl | rfl <;> exact dch_isD _ (by omega)
  · show (((a * 10 + ((dch (k / 1000)).toNat - 48)) * 10 + ((dch (k / 100 % 10)).toNat - 48)) * 10 + ((dch (k / 10 % 10)).toNat - 48)) * 10 + ((dch (k % 10)).toNat - 48) = _
    rw [dch_nat _ (by omega), dch_nat _ (by omega), dch_nat _ (by omega), dch_nat _ (by omega)]; omega

theorem nd_le (k : Nat) : ∀ m, 1 ≤ k → m < 10 ^ k → (Lib.decDigits m).length ≤ k := by
  induction k with
  | zero => intro m h; omega
  | succ k ih =>
    intro m _ h
    by_cases g : m < 10
    · rw [d1 m g]; simp
    · rw [dS m (by omega), List.length_append]
      cases k with
      | zero => omega
      | succ k =>
        have := ih (m / 10) (by omega) (by rw [Nat.pow_succ] at h; omega)
        simp; omega

/-- The digits of money: before the dot and behind it. -/
def monD (m : Nat) : List UInt8 := Lib.decDigits (m / 100) ++ pad ((m % 100 : Nat) : Int) 2
theorem monD_ok (m : Nat) : allD (monD m) ∧ val (monD m) = m ∧ monD m ≠ [] := by
  obtain ⟨a, b, c⟩ := dec_digits (m / 100)
  obtain ⟨d, e, f⟩ := pad2_dig (m % 100) (by omega)
  refine ⟨allD_app a d, ?_, by unfold monD; simp [c]⟩
  unfold monD val
  rw [valF_app]
  show valF (val (Lib.decDigits (m / 100))) _ = _
  rw [b, e]; omega
theorem posT_eq (m : Nat) : posT (m : Int) = Lib.decDigits (m / 100) ++ 46 :: pad ((m % 100 : Nat) : Int) 2 := by
  unfold posT
  rw [show (m : Int) / 100 = ((m / 100 : Nat) : Int) by omega, show (m : Int) % 100 = ((m % 100 : Nat) : Int) by omega, Lib.itoa_nonneg]
  simp
theorem dec_no (c : UInt8) (h : isD c = false) (m : Nat) : c ∉ Lib.decDigits m := fun g => by
  have := (dec_digits m).1 c g; rw [h] at this; cases this
theorem posT_rep (m : Nat) : Lib.replace (posT (m : Int)) [46] [] 1 = monD m := by
  rw [posT_eq]; exact replace_one _ _ 46 (dec_no 46 rfl _)
theorem posT_dig (m : Nat) : digF (posT (m : Int)) = monD m := by
  rw [posT_eq, digF_app, digF_id _ (dec_digits _).1, show (46 : UInt8) :: pad ((m % 100 : Nat) : Int) 2 = [46] ++ pad ((m % 100 : Nat) : Int) 2 from rfl, digF_app, digF_id _ (pad2_dig _ (by omega)).1]
  rfl
theorem money_dig (n : Int) : digF (moneyT n) = monD n.natAbs := by
  unfold moneyT
  split
  · rw [digF_app, show -n = ((n.natAbs : Nat) : Int) by omega, posT_dig]; rfl
  · rw [show n = ((n.natAbs : Nat) : Int) by omega, posT_dig]; rfl
theorem posT_head (m : Nat) : ∃ c r, posT (m : Int) = c :: r ∧ isD c = true := by
  rw [posT_eq]
  cases h : Lib.decDigits (m / 100) with
  | nil => exact absurd h (dec_digits _).2.2
  | cons c r => exact ⟨c, _, rfl, (dec_digits (m / 100)).1 c (by rw [h]; simp)⟩
theorem posT_len (m : Nat) (h : m ≤ 1000000000000) : (posT (m : Int)).length ≤ 14 := by
  rw [posT_eq, List.length_append, List.length_cons, (pad2_dig _ (by omega)).2.2, Lib.decDigits_length]
  have : Lib.nDigits (m / 100) ≤ 11 := by
    rcases Nat.lt_or_ge (m / 100) (10 ^ 10) with g | g
    · rw [← Lib.decDigits_length]
      have := nd_le 10 (m / 100) (by omega) g
      omega
    · have : m / 100 = 10000000000 := by omega
      rw [this, Lib.nDigits_unique 10 _ (by decide) (by decide)]; exact Nat.le_refl _
  omega
end Go.Proofs.YtfnmomdjmhbffaaDoor.ReadPlain
