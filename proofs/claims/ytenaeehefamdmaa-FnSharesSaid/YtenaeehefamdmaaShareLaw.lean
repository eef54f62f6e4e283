/-
  Plain facts on shares: they add up to the amount, and each lies within one of its exact value. No program in sight.
  Conditions: as each lemma says.
-/
import Derived.Test.YtenaeehefamdmaaShareOuts
namespace Go.Proofs.Ytenaeehefamdmaa.Shares
open Go.Sort SortPlain Sorts Mem
set_option linter.unusedVariables false

theorem sum_put (l : List Int) (i : Nat) (x : Int) (h : i < l.length) : (l.set i x).sum = l.sum - l.getD i 0 + x := by
  induction l generalizing i with
  | nil => simp at h
  | cons y l ih =>
    cases i with
    | zero => simp; omega
    | succ i =>
      have := ih i (by simpa using h)
      simp only [List.set_cons_succ, List.sum_cons, this, List.getD_cons_succ]
      omega
theorem perm_sum {l l' : List Int} (h : l.Perm l') : l.sum = l'.sum := by
  induction h with
  | nil => rfl
  | cons x _ ih => rw [List.sum_cons, List.sum_cons, ih]
  | swap x y l => simp only [List.sum_cons]; omega
  | trans _ _ h1 h2 => exact h1.trans h2
/-- A sum whose places from j on count nothing. -/
theorem sum_ahead (M : Int) (hM : 0 ≤ M) (l : List Int) (j : Nat) (h1 : ∀ x ∈ l, x ≤ M) (h2 : ∀ i, j ≤ i → i < l.length → l.getD i 0 ≤ 0) : l.sum ≤ M * j := by
  induction l generalizing j with
  | nil => simp; exact Int.mul_nonneg hM (by omega)
  | cons x l ih =>
    rw [List.sum_cons]
    cases j with
    | zero =>
      have a := h2 0 (Nat.le_refl _) (by simp)
      have b := ih 0 (fun y hy => h1 y (by simp [hy])) (fun i hi hl => by
        have := h2 (i + 1) (by omega) (by simpa using hl)
        simpa using this)
      simp at a b ⊢
      omega
    | succ j =>
      have a := h1 x (by simp)
      have b := ih j (fun y hy => h1 y (by simp [hy])) (fun i hi hl => by
        have := h2 (i + 1) (by omega) (by simpa using hl)
        simpa using this)
      rw [show ((j + 1 : Nat) : Int) = (j : Int) + 1 from rfl, Int.mul_add, Int.mul_one]
      omega
variable {A T : Int} {ws : List Int} {n : Nat} {d : Array (Fin (n + 1))}
theorem outK_get (h : Valid A T ws n d) (q : List Int) (hq : q.length = n + 1) (k : Nat) (hk : k ≤ n + 1) (j : Nat) (hj : j < n + 1) : (outK q d k).getD d[j]!.val 0 = q.getD d[j]!.val 0 + (if j < k then 1 else 0) := by
  induction k with
  | zero => simp [outK]
  | succ k ih =>
    have ih := ih (by omega)
    rw [outK_succ, getD_set _ _ _ _ (by rw [outK_len, hq]; exact d[k]!.isLt)]
    by_cases e : k = j
    · subst e
      rw [if_pos rfl, ih, if_neg (by omega), if_pos (by omega)]
      omega
    · rw [if_neg (fun e2 => e (h.inj (by omega) hj (Fin.ext e2))), ih]
      by_cases c : j < k
      · rw [if_pos c, if_pos (by omega)]
      · rw [if_neg c, if_neg (by omega)]
theorem outK_sum (q : List Int) (hq : q.length = n + 1) (k : Nat) : (outK q d k).sum = q.sum + k := by
  induction k with
  | zero => simp [outK]
  | succ k ih =>
    rw [outK_succ, sum_put _ _ _ (by rw [outK_len, hq]; exact d[k]!.isLt), ih]
    omega
theorem rests_sum (h : Valid A T ws n d) (hl : ws.length = n + 1) : (rL A T ws).sum = (d.toList.map fun i => rest A T ws i.val).sum := by
  have e : rL A T ws = (idt n).toList.map fun i => rest A T ws i.val := by
    refine List.ext_getElem (by rw [rL_len, hl, List.length_map, Array.length_toList, idt_size]) (fun i h1 h2 => ?_)
    have hi : i < ws.length := by rw [rL_len] at h1; exact h1
    have g := rL_get A T ws i hi
    rw [List.getD, List.getElem?_eq_getElem h1, Option.getD_some] at g
    rw [g, List.getElem_map]
    have e2 := idt_get n i (by omega)
    rw [getElem!_pos _ i (by rw [idt_size]; omega)] at e2
    rw [Array.getElem_toList, e2]
  rw [e]
  exact perm_sum (h.perm.symm.map _)
/-- Only rests of at least 1 are rounded up. -/
theorem up_rest (h : Valid A T ws n d) (hl : ws.length = n + 1) (hT : 1 ≤ T) (L : Nat) (hL : T * L = (rL A T ws).sum) (j : Nat) (hj : j < L) (hjn : j < n + 1) : 1 ≤ rest A T ws d[j]!.val := by
  have nn : ∀ i, 0 ≤ rest A T ws i := fun i => Int.emod_nonneg _ (by omega)
  have lt : ∀ i, rest A T ws i < T := fun i => Int.emod_lt_of_pos _ (by omega)
  rcases Int.lt_or_le (rest A T ws d[j]!.val) 1 with c | c
  · exfalso
    have hs := h.size
    have b := sum_ahead (T - 1) (by omega) (d.toList.map fun i => rest A T ws i.val) j (fun x hx => by
      obtain ⟨i, _, rfl⟩ := List.mem_map.1 hx
      have := lt i.val; omega) (fun i hi hil => by
      rw [List.length_map, Array.length_toList, hs] at hil
      have e : (d.toList.map fun i => rest A T ws i.val).getD i 0 = rest A T ws d[i]!.val := by
        rw [List.getD, List.getElem?_map, List.getElem?_eq_getElem (by rw [Array.length_toList, hs]; exact hil), getElem!_pos d i (by omega), Array.getElem_toList]
        rfl
      rw [e]
      by_cases ei : i = j
      · subst ei; omega
      · have s := h.2.1 j i (Nat.zero_le _) (by omega) hil
        rw [lt_cfR] at s
        have s' := of_decide_eq_false s
        omega)
    rw [← rests_sum h hl, ← hL] at b
    have h1 : (T - 1) * (j : Int) ≤ (T - 1) * (L : Int) := Int.mul_le_mul_of_nonneg_left (by omega) (by omega)
    rw [Int.sub_mul, Int.sub_mul, Int.one_mul, Int.one_mul] at h1
    rw [Int.sub_mul, Int.one_mul] at b
    have h2 : T * (j : Int) + T ≤ T * (L : Int) := by
      have : T * ((j : Int) + 1) ≤ T * L := Int.mul_le_mul_of_nonneg_left (by omega) (by omega)
      rw [Int.mul_add, Int.mul_one] at this; exact this
    omega
  · exact c
/-- What the law asks of shares. -/
theorem shares_law (h : Valid A ws.sum ws n d) (hl : ws.length = n + 1) (hw : within 0 1000000000 ws = true) (a0 : 0 ≤ A) (hT : 1 ≤ ws.sum) (os : List Int) (ho : os = outK (qL A ws.sum ws) d (A - (qL A ws.sum ws).sum).toNat) :
    os.length = ws.length ∧ os.sum = A ∧ ∀ i, i < ws.length → 0 ≤ os.getD i 0 ∧ os.getD i 0 ≤ A + 1 ∧ -ws.sum < os.getD i 0 * ws.sum - A * ws.getD i 0 ∧ os.getD i 0 * ws.sum - A * ws.getD i 0 < ws.sum := by
  obtain ⟨b0, b1⟩ := left_bd A ws hT (by omega)
  have sp := sum_split A ws.sum ws
  have mem : ∀ x ∈ ws, 0 ≤ x := fun x hx => by
    obtain ⟨i, hi, rfl⟩ := List.getElem_of_mem hx
    have := within_get hw i hi
    rw [getD_lt hi] at this
    exact this.1
  obtain ⟨_, mle⟩ := mem_sum mem
  obtain ⟨L, hL⟩ : ∃ L : Nat, A - (qL A ws.sum ws).sum = (L : Int) := ⟨(A - (qL A ws.sum ws).sum).toNat, by omega⟩
  have hLn : (A - (qL A ws.sum ws).sum).toNat = L := by omega
  have qlen := qL_len A ws.sum ws
  have hLT : ws.sum * L = (rL A ws.sum ws).sum := by rw [← hL, Int.mul_sub, Int.mul_comm ws.sum A]; omega
  have up := up_rest h hl hT L hLT
  rw [hLn] at ho
  refine ⟨by rw [ho, outK_len, qlen], by rw [ho, outK_sum _ (by rw [qlen, hl])]; omega, fun i hi => ?_⟩
  obtain ⟨j, hj, e⟩ := h.surj i (by omega)
  have g := outK_get h (qL A ws.sum ws) (by rw [qlen, hl]) L (by omega) j hj
  rw [e, ← ho] at g
  have eq : (qL A ws.sum ws).getD i 0 = A * ws.getD i 0 / ws.sum := by simp [qL, List.getD, hi]
  have er : rest A ws.sum ws i = A * ws.getD i 0 % ws.sum := rfl
  have dm := Int.mul_ediv_add_emod (A * ws.getD i 0) ws.sum
  have r0 := Int.emod_nonneg (A * ws.getD i 0) (show ws.sum ≠ 0 by omega)
  have r1 := Int.emod_lt_of_pos (A * ws.getD i 0) (show 0 < ws.sum by omega)
  obtain ⟨s0, s1⟩ := share_bd (A := A) a0 hT (mem _ (getD_mem hi)) (mle _ (getD_mem hi))
  have u : j < L → 1 ≤ A * ws.getD i 0 % ws.sum := fun c => by have := up j c hj; rw [e, er] at this; exact this
  rw [eq] at g
  rw [g]
  generalize A * ws.getD i 0 % ws.sum = r at *
  generalize A * ws.getD i 0 / ws.sum = q at *
  generalize A * ws.getD i 0 = P at *
  generalize ws.sum = S at *
  by_cases c : j < L
  · have := u c
    rw [if_pos c, Int.add_mul, Int.one_mul, Int.mul_comm q S]
    refine ⟨by omega, by omega, by omega, by omega⟩
  · rw [if_neg c, Int.add_zero, Int.mul_comm q S]
    refine ⟨by omega, by omega, by omega, by omega⟩
end Go.Proofs.Ytenaeehefamdmaa.Shares
