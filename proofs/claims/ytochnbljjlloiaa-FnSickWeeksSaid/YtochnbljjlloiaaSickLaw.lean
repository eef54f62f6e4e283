/-
  What the law on weeks of sickness asks, plain.
  Conditions: as each lemma says.
-/
import Derived.Test.YtochnbljjlloiaaSickSums
namespace Go.Proofs.Ytochnbljjlloiaa.SickLaw
open Go.RowKit Mem SickTables SickSums
set_option linter.unusedVariables false

theorem bst_in (xs : List Int) (h : 1 ≤ xs.length) : Greatest.bst xs xs.length < xs.length := (Greatest.bst_lt xs xs.length).2 (by omega)
/-- No age has more weeks than the worst one. -/
theorem worst (f : Int) (xs : List Int) (age : Int) (hl : xs.length ≤ 30) (h : waC f xs age = 0) : waC f xs (woV f xs) = 0 ∧ waV f xs age ≤ waV f xs (woV f xs) ∧ -9223372036854775808 ≤ woV f xs ∧ woV f xs ≤ 9223372036854775807 := by
  unfold waC at h
  by_cases hk : skB f xs = true
  · rw [if_pos hk] at h
    by_cases ha : 0 ≤ age ∧ age ≤ 150
    · obtain ⟨⟨f1, f2⟩, ⟨n1, n2⟩, hw⟩ := skB_of hk
      have hb := bst_in xs n1
      have hwo : woV f xs = f + (Greatest.bst xs xs.length : Int) := by unfold woV; rw [if_pos hk]
      have hr : 0 ≤ woV f xs ∧ woV f xs ≤ 150 := by rw [hwo]; omega
      refine ⟨by unfold waC; rw [if_pos hk, if_pos hr], ?_, by omega, by omega⟩
      unfold waV
      rw [if_pos hk, if_pos hk, if_pos ha, if_pos hr, hwo]
      have e : wk f xs (f + (Greatest.bst xs xs.length : Int)) = xs.getD (Greatest.bst xs xs.length) 0 := by
        unfold wk; rw [if_pos (by omega)]; congr 1; omega
      rw [e]
      unfold wk
      split
      · exact Greatest.bst_max xs xs.length _ (by omega)
      · exact (within_get hw _ hb).1
    · rw [if_neg ha] at h; exact absurd h (by decide)
  · rw [if_neg hk] at h; exact absurd h (by decide)

/-- Weeks of members add up. -/
theorem adds (f : Int) (xs ys : List Int) (h : swC f xs ys = 0) : (∀ k, k < ys.length → waC f xs (ys.getD k 0) = 0 ∧ sw f xs ys (k + 1) = sw f xs ys k + waV f xs (ys.getD k 0) ∧ 0 ≤ ys.getD k 0 ∧ ys.getD k 0 ≤ 150) ∧ (∀ k, k ≤ ys.length → 0 ≤ sw f xs ys k ∧ sw f xs ys k ≤ 6760000) ∧
    sw f xs ys ys.length ≤ 1000 * swV f xs ys ∧ 1000 * (swV f xs ys - 1) < sw f xs ys ys.length ∧ 0 ≤ swV f xs ys ∧ swV f xs ys ≤ 6760000 := by
  unfold swC at h
  by_cases hk : skB f xs = true
  · rw [if_pos hk] at h
    by_cases ha : agesOk ys = true
    · obtain ⟨⟨f1, f2⟩, ⟨n1, n2⟩, hw⟩ := skB_of hk
      obtain ⟨hw2, hl2⟩ := ages_of ha
      have bd := fun k => sw_bd (f := f) hw ys k
      have hv : swV f xs ys = Plain.upq (sw f xs ys ys.length) 1000 := by unfold swV; rw [if_pos hk, if_pos ha]
      have g1 := Plain.upq_ge (sw f xs ys ys.length) 1000 (by omega)
      have g2 := Plain.upq_lt (sw f xs ys ys.length) 1000 (by omega)
      have g3 := Plain.upq_bd (sw f xs ys ys.length) 1000 (bd _).1 (by omega)
      have b1 := bd ys.length
      refine ⟨fun k hk2 => ?_, fun k hk2 => ⟨(bd k).1, by have := (bd k).2; omega⟩, by rw [hv]; omega, by rw [hv]; omega, by rw [hv]; omega, by rw [hv]; omega⟩
      have g := within_get hw2 k hk2
      refine ⟨by unfold waC; rw [if_pos hk, if_pos g], ?_, g.1, g.2⟩
      unfold waV; rw [if_pos hk, if_pos g]; rfl
    · rw [if_neg ha] at h; exact absurd h (by decide)
  · rw [if_neg hk] at h; exact absurd h (by decide)
end Go.Proofs.Ytochnbljjlloiaa.SickLaw
