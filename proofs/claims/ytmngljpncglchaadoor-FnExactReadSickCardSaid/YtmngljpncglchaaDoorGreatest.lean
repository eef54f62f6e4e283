/-
  Contracts of the library's Max and Index on a slice of int64, and plain facts on the first greatest number of a list.
  Conditions: Max: the list is not empty.
-/
import Derived.Test.YtmngljpncglchaaDoorLists
namespace Go.Proofs.YtmngljpncglchaaDoor.Greatest
open Go.RowKit Mem
set_option linter.unusedVariables false

/-- The index of the first greatest number among the first k. -/
def bst (xs : List Int) : Nat → Nat
  | 0 => 0
  | k + 1 => if xs.getD (bst xs k) 0 < xs.getD k 0 then k else bst xs k
theorem bst_succ (xs : List Int) (k : Nat) : bst xs (k + 1) = if xs.getD (bst xs k) 0 < xs.getD k 0 then k else bst xs k := rfl
theorem bst_lt (xs : List Int) (k : Nat) : bst xs k ≤ k ∧ (0 < k → bst xs k < k) := by
  induction k with
  | zero => simp [bst]
  | succ k ih => rw [bst_succ]; split <;> omega
theorem bst_max (xs : List Int) (k : Nat) : ∀ j, j < k → xs.getD j 0 ≤ xs.getD (bst xs k) 0 := by
  induction k with
  | zero => intro j h; omega
  | succ k ih =>
    intro j hj
    rw [bst_succ]
    split
    · rename_i h
      by_cases e : j = k
      · subst e; omega
      · have := ih j (by omega); omega
    · rename_i h
      by_cases e : j = k
      · subst e; omega
      · exact ih j (by omega)
theorem bst_first (xs : List Int) (k : Nat) : ∀ j, j < bst xs k → xs.getD j 0 < xs.getD (bst xs k) 0 := by
  induction k with
  | zero => intro j h; simp [bst] at h
  | succ k ih =>
    intro j hj
    rw [bst_succ] at hj ⊢
    split
    · rename_i h
      rw [if_pos h] at hj
      have := bst_max xs k j hj
      omega
    · rename_i h
      rw [if_neg h] at hj
      exact ih j hj

/-- Index of a number that the list holds at m, and nowhere before. -/
theorem index_any (b off cap : Nat) (xs : List Int) (v : Int) (m : Nat) (w : World) (hn : xs.length ≤ 1000000) (hm : m < xs.length) (hv : xs.getD m 0 = v) (hf : ∀ j, j < m → xs.getD j 0 ≠ v) (hx : ∀ i, i < xs.length → w.cell? ⟨b, off + i, none⟩ = some (.int .i64 (xs.getD i 0))) :
    Calls Tryd.prog 162 #[.slice (some ⟨b, off, none⟩) xs.length cap, .int .i64 v] w fun e w' => e = .returned (.int .i64 (m : Int)) ∧ ∃ q, w' = w.drewN q := by
  have HX := Lib.hid hx
  have HV := Lib.hid hv
  have HF := Lib.hid hf
  clear hx hv hf
  go_enter Tryd.func162, Tryd.ntmps162
  go_wp2
  go_loopw [8] (fun i wr => ∃ (k q : Nat), k ≤ m ∧ i = .int .i64 k ∧ wr = w.drewN q) (fun i _ => xs.length - (intOf i).toNat)
  case atStart => exact ⟨0, 0, by omega, rfl, rfl⟩
  case round =>
    obtain ⟨k, q, hk, rfl, rfl⟩ := hrel
    have hc1 : w.cell? ⟨b, off + k, none⟩ = some (.int .i64 (xs.getD k 0)) := HX.out k (by omega)
    have hc2 : (w.drewN q).cell? ⟨b, off + k, none⟩ = some (.int .i64 (xs.getD k 0)) := hc1
    have hkl : (k : Int) < (xs.length : Int) := by omega
    by_cases hlt : k < m
    · have hne := HF.out k hlt
      generalize xs.getD k 0 = y at *
      have hne' : v < y ∨ y < v := by omega
      clear hne
      go_wp2
      go_roundw
      case rel => exact ⟨k + 1, _, by omega, by go_num, by first | rfl | exact World.drewN_drewN ..⟩
      case measure => simp [intOf]; omega
    · obtain rfl : k = m := by omega
      rw [HV.out] at hc1 hc2
      go_wp2
      go_ret
      exact ⟨rfl, _, rfl⟩

end Go.Proofs.YtmngljpncglchaaDoor.Greatest
