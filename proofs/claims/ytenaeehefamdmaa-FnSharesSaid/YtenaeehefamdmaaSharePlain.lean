/-
  Plain facts on shares: the reference's picks are the places of the sorted order, with no program in sight.
  Conditions: as each lemma says.
-/
import Derived.Test.YtenaeehefamdmaaShareSort
namespace Go.Proofs.Ytenaeehefamdmaa.Shares
open Go.Sort SortPlain Sorts
set_option linter.unusedVariables false

/-- An order of the numbers 0 .. n by rests. -/
def Valid (A T : Int) (ws : List Int) (n : Nat) (d : Array (Fin (n + 1))) : Prop := PermIn 0 (n + 1) (idt n) d ∧ SortedIn (ltOf (cfR A T ws n)) 0 (n + 1) d ∧ Stab (ltOf (cfR A T ws n)) Fin.val d
theorem Valid.size {A T : Int} {ws : List Int} {n : Nat} {d : Array (Fin (n + 1))} (h : Valid A T ws n d) : d.size = n + 1 := h.1.1.trans (idt_size n)
theorem extract_all {β : Type} (a : Array β) (N : Nat) (h : a.size = N) : a.extract 0 N = a := by subst h; simp
theorem Valid.perm {A T : Int} {ws : List Int} {n : Nat} {d : Array (Fin (n + 1))} (h : Valid A T ws n d) : d.toList.Perm (idt n).toList := by
  have p := h.1.2.2
  have e1 : d.extract 0 (n + 1) = d := extract_all d _ h.size
  have e2 : (idt n).extract 0 (n + 1) = idt n := extract_all _ _ (idt_size n)
  rw [e1, e2] at p
  exact p
theorem idt_nodup (n : Nat) : (idt n).toList.Nodup := by
  refine List.pairwise_iff_getElem.2 (fun i j hi hj hij e => ?_)
  have s := idt_size n
  have hi' : i < n + 1 := by rw [Array.length_toList, s] at hi; exact hi
  have hj' : j < n + 1 := by rw [Array.length_toList, s] at hj; exact hj
  rw [Array.getElem_toList, Array.getElem_toList] at e
  have e1 := idt_get n i hi'
  have e2 := idt_get n j hj'
  rw [getElem!_pos _ i (by omega)] at e1
  rw [getElem!_pos _ j (by omega)] at e2
  rw [e1, e2] at e
  have := congrArg Fin.val e
  simp at this; omega
theorem Valid.inj {A T : Int} {ws : List Int} {n : Nat} {d : Array (Fin (n + 1))} (h : Valid A T ws n d) {i j : Nat} (hi : i < n + 1) (hj : j < n + 1) (e : d[i]! = d[j]!) : i = j := by
  have hl : d.toList.length = d.size := Array.length_toList
  have nd := List.pairwise_iff_getElem.1 (h.perm.nodup_iff.2 (idt_nodup n))
  have s := h.size
  rw [getElem!_pos d i (by omega), getElem!_pos d j (by omega)] at e
  rcases Nat.lt_trichotomy i j with c | c | c
  · exact absurd (by rw [Array.getElem_toList, Array.getElem_toList]; exact e) (nd i j _ _ c)
  · exact c
  · exact absurd (by rw [Array.getElem_toList, Array.getElem_toList]; exact e.symm) (nd j i _ _ c)
theorem Valid.surj {A T : Int} {ws : List Int} {n : Nat} {d : Array (Fin (n + 1))} (h : Valid A T ws n d) (x : Nat) (hx : x < n + 1) : ∃ j, j < n + 1 ∧ d[j]!.val = x := by
  have m : (⟨x, hx⟩ : Fin (n + 1)) ∈ d.toList := h.perm.mem_iff.2 (by
    have e1 := idt_get n x hx
    rw [getElem!_pos _ x (by rw [idt_size]; exact hx)] at e1
    rw [← e1]
    simp)
  obtain ⟨j, hj, e⟩ := List.getElem_of_mem m
  have hj' : j < d.size := by simpa using hj
  refine ⟨j, by rw [← h.size]; exact hj', ?_⟩
  rw [getElem!_pos d j hj']
  have : d[j] = (⟨x, hx⟩ : Fin (n + 1)) := by simpa using e
  rw [this]

/-- The shares, and the rests, when k picks have been made. -/
def outK {n : Nat} (q : List Int) (d : Array (Fin (n + 1))) : Nat → List Int
  | 0 => q
  | k + 1 => (outK q d k).set d[k]!.val ((outK q d k).getD d[k]!.val 0 + 1)
def resK {n : Nat} (r : List Int) (d : Array (Fin (n + 1))) : Nat → List Int
  | 0 => r
  | k + 1 => (resK r d k).set d[k]!.val (-1)
theorem outK_len {n : Nat} (q : List Int) (d : Array (Fin (n + 1))) (k : Nat) : (outK q d k).length = q.length := by
  induction k with
  | zero => rfl
  | succ k ih => unfold outK; rw [List.length_set, ih]
theorem resK_len {n : Nat} (r : List Int) (d : Array (Fin (n + 1))) (k : Nat) : (resK r d k).length = r.length := by
  induction k with
  | zero => rfl
  | succ k ih => unfold resK; rw [List.length_set, ih]
theorem getD_set (l : List Int) (i j : Nat) (x : Int) (hi : i < l.length) : (l.set i x).getD j 0 = if i = j then x else l.getD j 0 := by
  by_cases e : i = j
  · subst e; rw [if_pos rfl]; simp [List.getD, hi]
  · rw [if_neg e]; simp [List.getD, List.getElem?_set_ne e]
theorem resK_get {A T : Int} {ws : List Int} {n : Nat} {d : Array (Fin (n + 1))} (h : Valid A T ws n d) (r : List Int) (hr : r.length = n + 1) (k : Nat) (hk : k ≤ n + 1) (j : Nat) (hj : j < n + 1) : (resK r d k).getD d[j]!.val 0 = if j < k then -1 else r.getD d[j]!.val 0 := by
  induction k with
  | zero => rw [if_neg (by omega)]; rfl
  | succ k ih =>
    unfold resK
    rw [getD_set _ _ _ _ (by rw [resK_len, hr]; exact d[k]!.isLt)]
    by_cases e : d[k]!.val = d[j]!.val
    · rw [if_pos e]
      have : k = j := h.inj (by omega) hj (Fin.ext e)
      rw [if_pos (by omega)]
    · rw [if_neg e, ih (by omega)]
      have : k ≠ j := fun e' => e (by rw [e'])
      by_cases c : j < k
      · rw [if_pos c, if_pos (by omega)]
      · rw [if_neg c, if_neg (by omega)]
/-- The reference's pick: the first of the greatest rests. -/
def FirstMax (r : List Int) (b : Nat) : Prop := b < r.length ∧ (∀ i, i < r.length → r.getD i 0 ≤ r.getD b 0) ∧ ∀ i, i < b → r.getD i 0 < r.getD b 0
theorem pick_eq {A T : Int} {ws : List Int} {n : Nat} {d : Array (Fin (n + 1))} (h : Valid A T ws n d) (r : List Int) (hr : r.length = n + 1) (hv : ∀ i, i < n + 1 → r.getD i 0 = rest A T ws i) (h0 : ∀ i, i < n + 1 → 0 ≤ rest A T ws i) (k : Nat) (hk : k < n + 1) (b : Nat) (hb : FirstMax (resK r d k) b) : b = d[k]!.val := by
  obtain ⟨b1, b2, b3⟩ := hb
  rw [resK_len, hr] at b1
  obtain ⟨j, hj, ej⟩ := h.surj b b1
  have gk := resK_get h r hr k (by omega) k hk
  have gj := resK_get h r hr k (by omega) j hj
  rw [if_neg (by omega), hv _ d[k]!.isLt] at gk
  have m1 := b2 d[k]!.val (by rw [resK_len, hr]; exact d[k]!.isLt)
  have z := h0 d[k]!.val d[k]!.isLt
  rw [← ej] at m1 b3 ⊢
  rw [gk, gj] at m1
  by_cases c : j < k
  · rw [if_pos c] at m1; omega
  · rw [if_neg c, hv _ d[j]!.isLt] at m1 gj
    rcases Nat.lt_or_ge k j with c2 | c2
    · exfalso
      -- sorted: the later one has no greater rest; equal rests stand by their numbers
      have s := h.2.1 k j (Nat.zero_le _) c2 hj
      rw [lt_cfR] at s
      have s' := of_decide_eq_false s
      have eqr : rest A T ws d[j]!.val = rest A T ws d[k]!.val := by omega
      have st := h.2.2 k j c2 (by rw [h.size]; exact hj) (by rw [lt_cfR]; exact decide_eq_false (by omega)) (by rw [lt_cfR]; exact decide_eq_false (by omega))
      have := b3 d[k]!.val st
      rw [gk, gj] at this
      omega
    · rw [show j = k by omega]

/-- The whole parts of shares, and their rests. -/
def qL (A T : Int) (ws : List Int) : List Int := ws.map fun x => A * x / T
def rL (A T : Int) (ws : List Int) : List Int := ws.map fun x => A * x % T
theorem qL_len (A T : Int) (ws : List Int) : (qL A T ws).length = ws.length := by simp [qL]
theorem rL_len (A T : Int) (ws : List Int) : (rL A T ws).length = ws.length := by simp [rL]
theorem qL_take (A T : Int) (ws : List Int) (k : Nat) (hk : k < ws.length) : (qL A T ws).take (k + 1) = (qL A T ws).take k ++ [A * ws.getD k 0 / T] := by
  rw [List.take_succ_eq_append_getElem (by rw [qL_len]; exact hk)]
  simp [qL, List.getD, hk]
theorem rL_take (A T : Int) (ws : List Int) (k : Nat) (hk : k < ws.length) : (rL A T ws).take (k + 1) = (rL A T ws).take k ++ [A * ws.getD k 0 % T] := by
  rw [List.take_succ_eq_append_getElem (by rw [rL_len]; exact hk)]
  simp [rL, List.getD, hk]
theorem rL_get (A T : Int) (ws : List Int) (i : Nat) (h : i < ws.length) : (rL A T ws).getD i 0 = rest A T ws i := by simp [rL, rest, List.getD, h]
theorem sum_split (A T : Int) (ws : List Int) : A * ws.sum = T * (qL A T ws).sum + (rL A T ws).sum := by
  induction ws with
  | nil => simp [qL, rL]
  | cons x l ih =>
    have e := Int.mul_ediv_add_emod (A * x) T
    unfold qL rL at *
    simp only [List.map_cons, List.sum_cons]
    rw [Int.mul_add, ih, Int.mul_add]
    omega
theorem rL_sum (A T : Int) (ws : List Int) (hT : 1 ≤ T) : 0 ≤ (rL A T ws).sum ∧ (rL A T ws).sum ≤ (T - 1) * ws.length := by
  induction ws with
  | nil => simp [rL]
  | cons x l ih =>
    have h1 := Int.emod_nonneg (A * x) (by omega : T ≠ 0)
    have h2 := Int.emod_lt_of_pos (A * x) (by omega : 0 < T)
    unfold rL at *
    simp only [List.map_cons, List.sum_cons, List.length_cons]
    rw [show (T - 1) * ((l.length + 1 : Nat) : Int) = (T - 1) * l.length + (T - 1) by rw [Int.natCast_add, Int.mul_add]; simp]
    omega
/-- What is left over is at least 0 and less than the number of weights. -/
theorem left_bd (A : Int) (ws : List Int) (hT : 1 ≤ ws.sum) (hl : 1 ≤ ws.length) : 0 ≤ A - (qL A ws.sum ws).sum ∧ A - (qL A ws.sum ws).sum < ws.length := by
  have e := sum_split A ws.sum ws
  obtain ⟨r1, r2⟩ := rL_sum A ws.sum ws hT
  generalize (qL A ws.sum ws).sum = q at *
  generalize (rL A ws.sum ws).sum = r at *
  generalize ws.sum = T at *
  have e2 : T * (A - q) = r := by rw [Int.mul_sub, Int.mul_comm T A]; omega
  constructor
  · rcases Int.lt_or_le (A - q) 0 with h | h
    · exfalso
      have : T * (A - q) ≤ T * (-1) := Int.mul_le_mul_of_nonneg_left (by omega) (by omega)
      omega
    · exact h
  · rcases Int.lt_or_le (A - q) ws.length with h | h
    · exact h
    · exfalso
      have h1 : T * (ws.length : Int) ≤ T * (A - q) := Int.mul_le_mul_of_nonneg_left h (by omega)
      rw [Int.sub_mul, Int.one_mul] at r2
      omega
theorem mem_sum {ws : List Int} (h : ∀ x ∈ ws, 0 ≤ x) : 0 ≤ ws.sum ∧ ∀ x ∈ ws, x ≤ ws.sum := by
  induction ws with
  | nil => exact ⟨by simp, fun x hx => by cases hx⟩
  | cons y l ih =>
    obtain ⟨i1, i2⟩ := ih (fun x hx => h x (by simp [hx]))
    have hy := h y (by simp)
    rw [List.sum_cons]
    refine ⟨by omega, fun x hx => ?_⟩
    rcases List.mem_cons.1 hx with rfl | hx
    · omega
    · have := i2 x hx; omega
theorem share_bd {A T x : Int} (a0 : 0 ≤ A) (hT : 1 ≤ T) (x0 : 0 ≤ x) (x1 : x ≤ T) : 0 ≤ A * x / T ∧ A * x / T ≤ A := by
  refine ⟨Int.ediv_nonneg (Int.mul_nonneg a0 x0) (by omega), ?_⟩
  have h1 : A * x ≤ A * T := Int.mul_le_mul_of_nonneg_left x1 a0
  have h2 := Int.ediv_le_ediv (by omega : 0 < T) h1
  rw [Int.mul_ediv_cancel _ (by omega : T ≠ 0)] at h2
  exact h2
end Go.Proofs.Ytenaeehefamdmaa.Shares
