/-
  Plain facts on a stable merge in place: exchanges of ranges, rotations, the symmetric merge, with no program in sight.
  Conditions: as each lemma says.
-/
import Derived.Sort.LotA
namespace Go.Proofs.Ytenaeehefamdmaa.SortPlain
open Go.Sort
set_option linter.unusedVariables false
variable {α : Type} [Inhabited α]

/-- Where an element of an exchange of two ranges comes from. -/
def six (a b n x : Nat) : Nat := if a ≤ x ∧ x < a + n then x - a + b else if b ≤ x ∧ x < b + n then x - b + a else x
def Swapped (a b n : Nat) (d d' : Array α) : Prop := d'.size = d.size ∧ ∀ x, x < d.size → d'[x]! = d[six a b n x]!
theorem swapped_zero (a b : Nat) (d : Array α) : Swapped a b 0 d d := ⟨rfl, fun x hx => by unfold six; rw [if_neg (by omega), if_neg (by omega)]⟩
theorem swapped_step {a b k : Nat} {d dk : Array α} (h : Swapped a b k d dk) (hab : a + k < b) (hb : b + k < d.size) : Swapped a b (k + 1) d (swp dk (a + k) (b + k)) := by
  obtain ⟨h1, h2⟩ := h
  refine ⟨by rw [swp_size, h1], fun x hx => ?_⟩
  rw [swp_get dk (i := a + k) (j := b + k) (by omega) (by omega) x]
  by_cases e1 : x = b + k
  · subst e1
    rw [if_pos rfl, h2 _ (by omega)]
    unfold six
    rw [if_neg (by omega), if_neg (by omega), if_neg (by omega), if_pos (by omega)]
    congr 1; omega
  · rw [if_neg e1]
    by_cases e2 : x = a + k
    · subst e2
      rw [if_pos rfl, h2 _ (by omega)]
      unfold six
      rw [if_neg (by omega), if_neg (by omega), if_pos (by omega)]
      congr 1; omega
    · rw [if_neg e2, h2 x hx]
      congr 1
      unfold six
      repeat' split
      all_goals omega

/-- Where an element of a rotation comes from. -/
def rix (a m b x : Nat) : Nat := if a ≤ x ∧ x < a + (b - m) then x + (m - a) else if a + (b - m) ≤ x ∧ x < b then x - (b - m) else x
def Rot (a m b : Nat) (d d' : Array α) : Prop := d'.size = d.size ∧ ∀ x, x < d.size → d'[x]! = d[rix a m b x]!
theorem rix_lt {a m b x n : Nat} (h1 : a ≤ m) (h2 : m ≤ b) (h3 : b ≤ n) (hx : x < n) : rix a m b x < n := by
  unfold rix
  repeat' split
  all_goals omega
theorem rot_gt {m i j : Nat} {d d' D : Array α} (hij : j < i) (him : i ≤ m) (hmj : m + j ≤ d.size) (h : Swapped (m - i) m j d d') (g : Rot (m - (i - j)) m (m + j) d' D) : Rot (m - i) m (m + j) d D := by
  refine ⟨g.1.trans h.1, fun x hx => ?_⟩
  rw [g.2 x (by rw [h.1]; exact hx), h.2 _ (rix_lt (by omega) (by omega) hmj hx)]
  congr 1
  unfold six rix
  repeat' split
  all_goals omega
theorem rot_lt {m i j : Nat} {d d' D : Array α} (hij : i < j) (him : i ≤ m) (hmj : m + j ≤ d.size) (h : Swapped (m - i) (m + j - i) i d d') (g : Rot (m - i) m (m + (j - i)) d' D) : Rot (m - i) m (m + j) d D := by
  refine ⟨g.1.trans h.1, fun x hx => ?_⟩
  rw [g.2 x (by rw [h.1]; exact hx), h.2 _ (rix_lt (by omega) (by omega) (by omega) hx)]
  congr 1
  unfold six rix
  repeat' split
  all_goals omega
theorem rot_eq {m i : Nat} {d d' : Array α} (him : i ≤ m) (h : Swapped (m - i) m i d d') : Rot (m - i) m (m + i) d d' := by
  refine ⟨h.1, fun x hx => ?_⟩
  rw [h.2 x hx]
  congr 1
  unfold six rix
  repeat' split
  all_goals omega

/-- Of two equals the one with the lesser number stands first. -/
def Stab (lt : α → α → Bool) (ix : α → Nat) (d : Array α) : Prop := ∀ i j, i < j → j < d.size → lt d[i]! d[j]! = false → lt d[j]! d[i]! = false → ix d[i]! < ix d[j]!
theorem stab_rot {lt : α → α → Bool} {ix : α → Nat} {a m b : Nat} {d d' : Array α} (h1 : a ≤ m) (h2 : m ≤ b) (h3 : b ≤ d.size) (h : Stab lt ix d) (g : Rot a m b d d') (hl : ∀ x y, m ≤ x → x < b → a ≤ y → y < m → lt d[x]! d[y]! = true) : Stab lt ix d' := by
  intro i j hij hj e1 e2
  have hj' : j < d.size := by rw [← g.1]; exact hj
  have hi' : i < d.size := by omega
  rw [g.2 i hi', g.2 j hj'] at e1 e2 ⊢
  by_cases c : rix a m b i < rix a m b j
  · exact h _ _ c (rix_lt h1 h2 h3 hj') e1 e2
  · exfalso
    -- the two have been turned: the first comes from the right block, the second from the left
    have : m ≤ rix a m b i ∧ rix a m b i < b ∧ a ≤ rix a m b j ∧ rix a m b j < m := by
      revert c
      unfold rix
      repeat' split
      all_goals omega
    have := hl _ _ this.1 this.2.1 this.2.2.1 this.2.2.2
    rw [this] at e1
    cases e1
theorem stab_swp {lt : α → α → Bool} {ix : α → Nat} {j : Nat} {d : Array α} (h : Stab lt ix d) (hj : j + 1 < d.size) (hl : lt d[j + 1]! d[j]! = true) : Stab lt ix (swp d (j + 1) j) := by
  refine stab_rot (a := j) (m := j + 1) (b := j + 2) (by omega) (by omega) (by omega) h ⟨swp_size .., fun x hx => ?_⟩ (fun x y a1 a2 a3 a4 => ?_)
  · rw [swp_get d (i := j + 1) (j := j) (by omega) (by omega) x]
    by_cases e1 : x = j
    · subst e1; rw [if_pos rfl]; unfold rix; rw [if_pos (by omega)]; congr 1; omega
    · rw [if_neg e1]
      by_cases e2 : x = j + 1
      · subst e2; rw [if_pos rfl]; unfold rix; rw [if_neg (by omega), if_pos (by omega)]; congr 1; omega
      · rw [if_neg e2]; unfold rix; rw [if_neg (by omega), if_neg (by omega)]
  · obtain rfl : x = j + 1 := by omega
    obtain rfl : y = j := by omega
    exact hl
theorem stab_inner {lt : α → α → Bool} {ix : α → Nat} (a : Nat) : ∀ (j : Nat) (d : Array α), j < d.size → Stab lt ix d → Stab lt ix (insInner lt a j d) := by
  intro j
  induction j with
  | zero => intro d _ h; exact h
  | succ j ih =>
    intro d hj h
    unfold insInner
    by_cases c : (j + 1 > a && lt d[j + 1]! d[j]!) = true
    · rw [if_pos c]
      have hl : lt d[j + 1]! d[j]! = true := by simp at c; exact c.2
      exact ih _ (by rw [swp_size]; omega) (stab_swp h hj hl)
    · rw [if_neg c]; exact h
theorem inner_size {lt : α → α → Bool} (a : Nat) : ∀ (j : Nat) (d : Array α), (insInner lt a j d).size = d.size := by
  intro j
  induction j with
  | zero => intro d; rfl
  | succ j ih =>
    intro d
    unfold insInner
    split
    · rw [ih, swp_size]
    · rfl
theorem stab_outer {lt : α → α → Bool} {ix : α → Nat} (a b : Nat) : ∀ (k i : Nat) (d : Array α), b - i = k → b ≤ d.size → Stab lt ix d → Stab lt ix (insOuter lt a b i d) := by
  intro k
  induction k with
  | zero => intro i d hk hb h; unfold insOuter; rw [if_neg (by omega)]; exact h
  | succ k ih =>
    intro i d hk hb h
    unfold insOuter
    rw [if_pos (by omega)]
    exact ih (i + 1) _ (by omega) (by rw [inner_size]; exact hb) (stab_inner a i d (by omega) h)
theorem stab_insertion {lt : α → α → Bool} {ix : α → Nat} {a b : Nat} {d : Array α} (hb : b ≤ d.size) (h : Stab lt ix d) : Stab lt ix (insertionSort lt d a b) := stab_outer a b _ _ d rfl hb h

/-- Two sorted parts, nothing on the right less than anything on the left: sorted. -/
theorem sorted_join {lt : α → α → Bool} {a m b : Nat} {d : Array α} (h1 : SortedIn lt a m d) (h2 : SortedIn lt m b d) (h : ∀ i j, a ≤ i → i < m → m ≤ j → j < b → lt d[j]! d[i]! = false) : SortedIn lt a b d := by
  intro i j hi hij hj
  by_cases c1 : j < m
  · exact h1 i j hi hij c1
  · by_cases c2 : i < m
    · exact h i j hi c2 (by omega) hj
    · exact h2 i j (by omega) hij hj
theorem sorted_small {lt : α → α → Bool} {a b : Nat} {d : Array α} (h : b ≤ a + 1) : SortedIn lt a b d := fun i j hi hij hj => by omega
/-- The symmetric merge: what its search has found. -/
structure Found (lt : α → α → Bool) (a m b mid start fin : Nat) (d : Array α) : Prop where
  h1 : a ≤ start
  h2 : start ≤ m
  h3 : m ≤ fin
  h4 : fin ≤ b
  h5 : start + fin = mid + m
  h6 : start ≤ mid
  h7 : mid ≤ fin
  /-- the right block's last is less than the left block's first -/
  yes : start < m → m < fin → lt d[fin - 1]! d[start]! = true
  /-- what follows the right block is not less than what stands ahead of the left one -/
  no : a < start → fin < b → lt d[fin]! d[start - 1]! = false
theorem swo_le {β : Type} {lt : β → β → Bool} (hS : SWO lt) {x y z : β} (h1 : lt y x = false) (h2 : lt z y = false) : lt z x = false := hS.ntrans z y x h2 h1
theorem swo_lt {β : Type} {lt : β → β → Bool} (hS : SWO lt) {x y z : β} (h1 : lt x y = true) (h2 : lt z y = false) : lt x z = true := by
  cases h : lt x z with
  | true => rfl
  | false =>
    have := hS.ntrans x z y h h2
    rw [h1] at this; cases this
theorem swo_lt' {β : Type} {lt : β → β → Bool} (hS : SWO lt) {x y z : β} (h1 : lt x y = true) (h2 : lt x z = false) : lt z y = true := by
  cases h : lt z y with
  | true => rfl
  | false =>
    have := hS.ntrans x z y h2 h
    rw [h1] at this; cases this
theorem sorted_le {lt : α → α → Bool} (hS : SWO lt) {a b i j : Nat} {d : Array α} (h : SortedIn lt a b d) (hi : a ≤ i) (hij : i ≤ j) (hj : j < b) : lt d[j]! d[i]! = false := by
  rcases Nat.eq_or_lt_of_le hij with rfl | h'
  · exact hS.irrefl _
  · exact h i j hi h' hj
/-- The right block is strictly less than the left one. -/
theorem found_strict {lt : α → α → Bool} (hS : SWO lt) {a m b mid start fin : Nat} {d : Array α} (F : Found lt a m b mid start fin d) (s1 : SortedIn lt a m d) (s2 : SortedIn lt m b d) :
    ∀ x y, m ≤ x → x < fin → start ≤ y → y < m → lt d[x]! d[y]! = true := fun x y hx1 hx2 hy1 hy2 => by
  have h1 := F.h1
  have h4 := F.h4
  have e := F.yes (by omega) (by omega)
  have e1 : lt d[fin - 1]! d[x]! = false := sorted_le hS s2 hx1 (by omega) (by omega)
  have e2 : lt d[y]! d[start]! = false := sorted_le hS s1 h1 hy1 hy2
  exact swo_lt' hS (swo_lt hS e e2) e1
/-- Behind the rotation no element of the right half is less than one of the left half. -/
theorem found_cross {lt : α → α → Bool} (hS : SWO lt) {a m b mid start fin : Nat} {d d' : Array α} (F : Found lt a m b mid start fin d) (s1 : SortedIn lt a m d) (s2 : SortedIn lt m b d) (hb : b ≤ d.size) (g : Rot start m fin d d') :
    ∀ i j, a ≤ i → i < mid → mid ≤ j → j < b → lt d'[j]! d'[i]! = false := by
  obtain ⟨h1, h2, h3, h4, h5, h6, h7, hy, hn⟩ := F
  have F : Found lt a m b mid start fin d := ⟨h1, h2, h3, h4, h5, h6, h7, hy, hn⟩
  intro i j hi1 hi2 hj1 hj2
  rw [g.2 i (by omega), g.2 j (by omega)]
  -- where the two come from
  by_cases ci : i < start
  · have ei : rix start m fin i = i := by unfold rix; rw [if_neg (by omega), if_neg (by omega)]
    rw [ei]
    by_cases cj : j < fin
    · have ej : rix start m fin j = j - (fin - m) := by unfold rix; rw [if_neg (by omega), if_pos (by omega)]
      rw [ej]
      exact s1 _ _ hi1 (by omega) (by omega)
    · have ej : rix start m fin j = j := by unfold rix; rw [if_neg (by omega), if_neg (by omega)]
      rw [ej]
      have e1 := hn (by omega) (by omega)
      have e2 : lt d[start - 1]! d[i]! = false := sorted_le hS s1 hi1 (by omega) (by omega)
      have e3 : lt d[j]! d[fin]! = false := sorted_le hS s2 h3 (by omega) hj2
      exact hS.ntrans _ _ _ e3 (hS.ntrans _ _ _ e1 e2)
  · have ei : rix start m fin i = i + (m - start) := by unfold rix; rw [if_pos (by omega)]
    rw [ei]
    by_cases cj : j < fin
    · have ej : rix start m fin j = j - (fin - m) := by unfold rix; rw [if_neg (by omega), if_pos (by omega)]
      rw [ej]
      exact hS.asymmA (found_strict hS F s1 s2 _ _ (by omega) (by omega) (by omega) (by omega))
    · have ej : rix start m fin j = j := by unfold rix; rw [if_neg (by omega), if_neg (by omega)]
      rw [ej]
      exact s2 _ _ (by omega) (by omega) hj2
/-- The four parts behind the rotation, each sorted. -/
theorem found_parts {lt : α → α → Bool} {a m b mid start fin : Nat} {d d' : Array α} (F : Found lt a m b mid start fin d) (s1 : SortedIn lt a m d) (s2 : SortedIn lt m b d) (hb : b ≤ d.size) (g : Rot start m fin d d') :
    SortedIn lt a start d' ∧ SortedIn lt start mid d' ∧ SortedIn lt mid fin d' ∧ SortedIn lt fin b d' := by
  obtain ⟨h1, h2, h3, h4, h5, h6, h7, hy, hn⟩ := F
  refine ⟨?_, ?_, ?_, ?_⟩ <;> intro i j hi hij hj <;> rw [g.2 i (by omega), g.2 j (by omega)]
  · have ei : rix start m fin i = i := by unfold rix; rw [if_neg (by omega), if_neg (by omega)]
    have ej : rix start m fin j = j := by unfold rix; rw [if_neg (by omega), if_neg (by omega)]
    rw [ei, ej]; exact s1 i j hi hij (by omega)
  · have ei : rix start m fin i = i + (m - start) := by unfold rix; rw [if_pos (by omega)]
    have ej : rix start m fin j = j + (m - start) := by unfold rix; rw [if_pos (by omega)]
    rw [ei, ej]; exact s2 _ _ (by omega) (by omega) (by omega)
  · have ei : rix start m fin i = i - (fin - m) := by unfold rix; rw [if_neg (by omega), if_pos (by omega)]
    have ej : rix start m fin j = j - (fin - m) := by unfold rix; rw [if_neg (by omega), if_pos (by omega)]
    rw [ei, ej]; exact s1 _ _ (by omega) (by omega) (by omega)
  · have ei : rix start m fin i = i := by unfold rix; rw [if_neg (by omega), if_neg (by omega)]
    have ej : rix start m fin j = j := by unfold rix; rw [if_neg (by omega), if_neg (by omega)]
    rw [ei, ej]; exact s2 i j (by omega) hij hj
theorem all_in {a b : Nat} {d d' : Array α} (hb : b ≤ d.size) (h : PermIn a b d d') (p : α → Prop) (hp : ∀ i, a ≤ i → i < b → p d[i]!) : ∀ i, a ≤ i → i < b → p d'[i]! := permIn_all d d' a b p hb h hp
/-- Behind both recursions: sorted. -/
theorem merge_done {lt : α → α → Bool} (hS : SWO lt) {a m b mid start fin : Nat} {d d1 d2 d3 : Array α} (F : Found lt a m b mid start fin d) (s1 : SortedIn lt a m d) (s2 : SortedIn lt m b d) (hb : b ≤ d.size) (g : Rot start m fin d d1)
    (p1 : PermIn a mid d1 d2) (q1 : SortedIn lt a mid d2) (p2 : PermIn mid b d2 d3) (q2 : SortedIn lt mid b d3) : SortedIn lt a b d3 := by
  have C := found_cross hS F s1 s2 hb g
  have z1 : d1.size = d.size := g.1
  have z2 : d2.size = d1.size := p1.1
  have z3 : d3.size = d2.size := p2.1
  have h6 := F.h6
  have h7 := F.h7
  have h4 := F.h4
  have A1 := all_in (by omega) p1 (fun y => ∀ j, mid ≤ j → j < b → lt d1[j]! y = false) (fun i i1 i2 j j1 j2 => C i j i1 i2 j1 j2)
  have A2 := all_in (by omega) p2 (fun x => ∀ i, a ≤ i → i < mid → lt x d2[i]! = false) (fun j j1 j2 i i1 i2 => by rw [p1.2.1 j (.inr j1)]; exact A1 i i1 i2 j j1 j2)
  refine sorted_join (m := mid) (fun i j i1 ij j2 => ?_) q2 (fun i j i1 i2 j1 j2 => ?_)
  · rw [p2.2.1 i (.inl (by omega)), p2.2.1 j (.inl (by omega))]; exact q1 i j i1 ij j2
  · rw [p2.2.1 i (.inl i2)]; exact A2 j j1 j2 i i1 i2
theorem rot_id {a m b : Nat} {d : Array α} (h : m = a ∨ b = m) (h1 : a ≤ m) (h2 : m ≤ b) : Rot a m b d d := ⟨rfl, fun x hx => by
  unfold rix
  rcases h with rfl | rfl
  · congr 1; repeat' split
    all_goals omega
  · congr 1; repeat' split
    all_goals omega⟩
/-- One element on the left. -/
theorem merge_left {lt : α → α → Bool} (hS : SWO lt) {a b i : Nat} {d d' : Array α} (s2 : SortedIn lt (a + 1) b d) (hb : b ≤ d.size) (i1 : a + 1 ≤ i) (i2 : i ≤ b) (lo : i = a + 1 ∨ lt d[i - 1]! d[a]! = true) (hi : i = b ∨ lt d[i]! d[a]! = false) (g : Rot a (a + 1) i d d') :
    SortedIn lt a b d' ∧ ∀ x y, a + 1 ≤ x → x < i → a ≤ y → y < a + 1 → lt d[x]! d[y]! = true := by
  have F : Found lt a (a + 1) b (i - 1) a i d := ⟨Nat.le_refl _, by omega, i1, i2, by omega, by omega, by omega, fun _ h => by rcases lo with lo | lo; (exfalso; omega); exact lo, fun h => by omega⟩
  have s1 : SortedIn lt a (a + 1) d := sorted_small (by omega)
  obtain ⟨_, q2, q3, q4⟩ := found_parts F s1 s2 hb g
  refine ⟨?_, found_strict hS F s1 s2⟩
  refine sorted_join (m := i - 1) q2 (sorted_join (m := i) q3 q4 (fun x y x1 x2 y1 y2 => ?_)) (found_cross hS F s1 s2 hb g)
  obtain rfl : x = i - 1 := by omega
  rw [g.2 (i - 1) (by omega), g.2 y (by omega)]
  have e1 : rix a (a + 1) i (i - 1) = a := by unfold rix; rw [if_neg (by omega), if_pos (by omega)]; omega
  have e2 : rix a (a + 1) i y = y := by unfold rix; rw [if_neg (by omega), if_neg (by omega)]
  rw [e1, e2]
  rcases hi with hi | hi
  · omega
  · exact hS.ntrans _ _ _ (sorted_le hS s2 i1 y1 y2) hi
/-- One element on the right. -/
theorem merge_right {lt : α → α → Bool} (hS : SWO lt) {a m i : Nat} {d d' : Array α} (s1 : SortedIn lt a m d) (hb : m + 1 ≤ d.size) (i1 : a ≤ i) (i2 : i ≤ m) (lo : i = a ∨ lt d[m]! d[i - 1]! = false) (hi : i = m ∨ lt d[m]! d[i]! = true) (g : Rot i m (m + 1) d d') :
    SortedIn lt a (m + 1) d' ∧ ∀ x y, m ≤ x → x < m + 1 → i ≤ y → y < m → lt d[x]! d[y]! = true := by
  have F : Found lt a m (m + 1) (i + 1) i (m + 1) d := ⟨i1, i2, by omega, Nat.le_refl _, by omega, by omega, by omega, fun h _ => by rcases hi with hi | hi; (exfalso; omega); exact hi, fun _ h => by omega⟩
  have s2 : SortedIn lt m (m + 1) d := sorted_small (by omega)
  obtain ⟨q1, q2, q3, _⟩ := found_parts F s1 s2 hb g
  refine ⟨?_, found_strict hS F s1 s2⟩
  refine sorted_join (m := i + 1) (sorted_join (m := i) q1 q2 (fun x y x1 x2 y1 y2 => ?_)) q3 (found_cross hS F s1 s2 hb g)
  obtain rfl : y = i := by omega
  rw [g.2 x (by omega), g.2 y (by omega)]
  have e1 : rix y m (m + 1) x = x := by unfold rix; rw [if_neg (by omega), if_neg (by omega)]
  have e2 : rix y m (m + 1) y = m := by unfold rix; rw [if_pos (by omega)]; omega
  rw [e1, e2]
  rcases lo with lo | lo
  · omega
  · exact hS.ntrans _ _ _ lo (sorted_le hS s1 x1 (by omega) (by omega))
/-- One element, moved to the right by exchanges of neighbours. -/
theorem rot_up {a k : Nat} {d dk : Array α} (h : Rot a (a + 1) (k + 1) d dk) (hak : a ≤ k) (hk : k + 1 < d.size) : Rot a (a + 1) (k + 2) d (swp dk k (k + 1)) := by
  refine ⟨(swp_size ..).trans h.1, fun x hx => ?_⟩
  rw [swp_get dk (i := k) (j := k + 1) (by rw [h.1]; omega) (by rw [h.1]; omega) x]
  by_cases e1 : x = k + 1
  · subst e1
    rw [if_pos rfl, h.2 _ (by omega)]
    congr 1; unfold rix
    repeat' split
    all_goals omega
  · rw [if_neg e1]
    by_cases e2 : x = k
    · subst e2
      rw [if_pos rfl, h.2 _ (by omega)]
      congr 1; unfold rix
      repeat' split
      all_goals omega
    · rw [if_neg e2, h.2 _ hx]
      congr 1; unfold rix
      repeat' split
      all_goals omega
/-- One element, moved to the left by exchanges of neighbours. -/
theorem rot_down {m k : Nat} {d dk : Array α} (h : Rot (k + 1) m (m + 1) d dk) (hk : k + 1 ≤ m) (hm : m < d.size) : Rot k m (m + 1) d (swp dk (k + 1) k) := by
  refine ⟨(swp_size ..).trans h.1, fun x hx => ?_⟩
  rw [swp_get dk (i := k + 1) (j := k) (by rw [h.1]; omega) (by rw [h.1]; omega) x]
  by_cases e1 : x = k
  · subst e1
    rw [if_pos rfl, h.2 _ (by omega)]
    congr 1; unfold rix
    repeat' split
    all_goals omega
  · rw [if_neg e1]
    by_cases e2 : x = k + 1
    · subst e2
      rw [if_pos rfl, h.2 _ (by omega)]
      congr 1; unfold rix
      repeat' split
      all_goals omega
    · rw [if_neg e2, h.2 _ hx]
      congr 1; unfold rix
      repeat' split
      all_goals omega
end Go.Proofs.Ytenaeehefamdmaa.SortPlain
