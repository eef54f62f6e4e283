/-
  Plain facts on tables told by words: a first age and a list of numbers.
  Conditions: as each lemma says.
-/
import Derived.Test.YtmngljpncglchaaDoorNumbers
import Derived.Test.YtmngljpncglchaaDoorLifeTables
import Derived.Test.YtmngljpncglchaaDoorSickTables
namespace Go.Proofs.YtmngljpncglchaaDoor.TabPlain
open Go.RowKit Mem ReadPlain Numbers Texts
set_option linter.unusedVariables false

/-- The text tells the table of first age f and numbers xs, and it passes the test P. -/
def IsT (P : Int → List Int → Bool) (l : List UInt8) (f : Int) (xs : List Int) : Prop := splitC 32 l = (f :: xs).map Lib.itoa ∧ P f xs = true
def Fine (P : Int → List Int → Bool) : Prop := ∀ f xs, P f xs = true → (0 ≤ f ∧ f ≤ 100) ∧ 1 ≤ xs.length ∧ xs.length ≤ 120 ∧ ∀ x ∈ xs, 0 ≤ x ∧ x ≤ 1000000
theorem fine_lt : Fine LifeTables.ltB := fun f xs h => by
  obtain ⟨hh, hg⟩ := LifeTables.ltB_of h
  obtain ⟨f1, f2, n1, n2, x0, xl, fl⟩ := hh
  have up : ∀ i, i < xs.length → xs.getD i 0 ≤ 1000000 ∧ 0 ≤ xs.getD i 0 := by
    intro i
    induction i with
    | zero => intro hi; exact ⟨x0, by have := (hg 0 (by omega)).1; omega⟩
    | succ i ih =>
      intro hi
      by_cases e : i + 1 + 1 < xs.length
      · have g := hg (i + 1) e
        have := g.2 (by omega)
        have k := ih (by omega)
        rw [Nat.add_sub_cancel] at this
        omega
      · have : i + 1 = xs.length - 1 := by omega
        rw [this, xl]; omega
  refine ⟨⟨f1, f2⟩, by omega, by omega, fun x hx => ?_⟩
  obtain ⟨i, hi, rfl⟩ := List.getElem_of_mem hx
  have := up i hi
  rw [getD_lt hi] at this
  omega
theorem fine_sk : Fine SickTables.skB := fun f xs h => by
  obtain ⟨h1, h2, h3⟩ := SickTables.skB_of h
  refine ⟨h1, h2.1, h2.2, fun x hx => ?_⟩
  obtain ⟨i, hi, rfl⟩ := List.getElem_of_mem hx
  have := within_get h3 i hi
  rw [getD_lt hi] at this
  omega
noncomputable def tB (P : Int → List Int → Bool) (l : List UInt8) : Bool := @decide (∃ f xs, IsT P l f xs) (Classical.propDecidable _)
noncomputable def tF (P : Int → List Int → Bool) (l : List UInt8) : Int := @dite _ (∃ f xs, IsT P l f xs) (Classical.propDecidable _) (fun h => h.choose) (fun _ => 0)
noncomputable def tX (P : Int → List Int → Bool) (l : List UInt8) : List Int := @dite _ (∃ f xs, IsT P l f xs) (Classical.propDecidable _) (fun h => h.choose_spec.choose) (fun _ => [])
theorem map_inj (xs : List Int) : ∀ ys : List Int, (∀ x ∈ xs, -9223372036854775807 ≤ x ∧ x ≤ 9223372036854775807) → (∀ x ∈ ys, -9223372036854775807 ≤ x ∧ x ≤ 9223372036854775807) → xs.map Lib.itoa = ys.map Lib.itoa → xs = ys := by
  induction xs with
  | nil => intro ys _ _ h; cases ys with
    | nil => rfl
    | cons y ys => cases h
  | cons x xs ih =>
    intro ys hx hy h
    cases ys with
    | nil => cases h
    | cons y ys =>
      simp only [List.map_cons] at h
      injection h with h1 h2
      rw [itoa_inj (hx x (by simp)) (hy y (by simp)) h1, ih ys (fun z hz => hx z (by simp [hz])) (fun z hz => hy z (by simp [hz])) h2]
theorem isT_bd {P : Int → List Int → Bool} (hP : Fine P) {l : List UInt8} {f : Int} {xs : List Int} (h : IsT P l f xs) : ∀ x ∈ f :: xs, 0 ≤ x ∧ x ≤ 1000000 := fun x hx => by
  obtain ⟨h1, _, _, h2⟩ := hP f xs h.2
  rcases List.mem_cons.1 hx with rfl | hx
  · omega
  · exact h2 x hx
theorem isT_inj {P : Int → List Int → Bool} (hP : Fine P) {l : List UInt8} {f g : Int} {xs ys : List Int} (h : IsT P l f xs) (k : IsT P l g ys) : f = g ∧ xs = ys := by
  have := map_inj (f :: xs) (g :: ys) (fun x hx => by have := isT_bd hP h x hx; omega) (fun x hx => by have := isT_bd hP k x hx; omega) (h.1.symm.trans k.1)
  injection this with a b
  exact ⟨a, b⟩
theorem tab_yes {P : Int → List Int → Bool} (hP : Fine P) {l : List UInt8} {f : Int} {xs : List Int} (h : IsT P l f xs) : tB P l = true ∧ tF P l = f ∧ tX P l = xs := by
  have hx : ∃ f xs, IsT P l f xs := ⟨f, xs, h⟩
  have hs := hx.choose_spec.choose_spec
  have := isT_inj hP hs h
  refine ⟨@decide_eq_true _ (Classical.propDecidable _) hx, ?_, ?_⟩
  · unfold tF; rw [@dif_pos _ (Classical.propDecidable _) hx]; exact this.1
  · unfold tX; rw [@dif_pos _ (Classical.propDecidable _) hx]; exact this.2
theorem tab_no {P : Int → List Int → Bool} {l : List UInt8} (h : ∀ f xs, ¬ IsT P l f xs) : tB P l = false ∧ tF P l = 0 ∧ tX P l = [] := by
  have hx : ¬ ∃ f xs, IsT P l f xs := fun ⟨f, xs, g⟩ => h f xs g
  refine ⟨@decide_eq_false _ (Classical.propDecidable _) hx, ?_, ?_⟩
  · unfold tF; rw [@dif_neg _ (Classical.propDecidable _) hx]
  · unfold tX; rw [@dif_neg _ (Classical.propDecidable _) hx]
theorem tX_len {P : Int → List Int → Bool} (hP : Fine P) (l : List UInt8) : (tX P l).length ≤ 120 := by
  by_cases hx : ∃ f xs, IsT P l f xs
  · obtain ⟨f, xs, h⟩ := hx
    rw [(tab_yes hP h).2.2]; exact (hP f xs h.2).2.2.1
  · rw [(tab_no fun f xs h => hx ⟨f, xs, h⟩).2.2]; simp
/-- Words that were read as numbers: which table they tell. -/
theorem tab_nums {P : Int → List Int → Bool} (hP : Fine P) {lo hi : Int} {l : List UInt8} {y : Int} {ys : List Int} (h : IsNums lo hi (splitC 32 l) (y :: ys)) (h1 : -9223372036854775808 ≤ lo) (h2 : hi ≤ 9223372036854775808) : (P y ys = true → tB P l = true ∧ tF P l = y ∧ tX P l = ys) ∧ (P y ys = false → tB P l = false ∧ tF P l = 0 ∧ tX P l = []) := by
  refine ⟨fun hp => tab_yes hP ⟨h.1, hp⟩, fun hp => tab_no fun f xs k => ?_⟩
  have := map_inj (f :: xs) (y :: ys) (fun x hx => by have := isT_bd hP k x hx; omega) (fun x hx => by have := h.2 x hx; omega) (k.1.symm.trans h.1)
  injection this with a b
  subst a b
  have := k.2
  rw [hp] at this; cases this
theorem tab_bad {P : Int → List Int → Bool} (hP : Fine P) {lo hi : Int} {l : List UInt8} (h : ∀ xs, ¬ IsNums lo hi (splitC 32 l) xs) (h1 : lo < 0) (h2 : 1000000 < hi) : tB P l = false ∧ tF P l = 0 ∧ tX P l = [] :=
  tab_no fun f xs k => h (f :: xs) ⟨k.1, fun x hx => by have := isT_bd hP k x hx; omega⟩
theorem tab_short {P : Int → List Int → Bool} (hP : Fine P) {y : Int} : P y [] = false := by
  cases h : P y [] with
  | false => rfl
  | true => have := (hP y [] h).2.1; simp at this

def TabRes (P : Int → List Int → Bool) (l : List UInt8) (w : World) (e : Ending) (w' : World) : Prop := ∃ v, e = .returned (.tuple #[.agg #[.int .i64 (tF P l), v], .bool (tB P l)]) ∧ Sl w' w.heap.size v (tX P l) ∧ Below w.heap.size w w'
theorem tab_ret {P : Int → List Int → Bool} {l : List UInt8} {w w' : World} {b : Bool} {f : Int} {xs : List Int} {v : Value} (h : tB P l = b ∧ tF P l = f ∧ tX P l = xs) (hs : Sl w' w.heap.size v xs) (hb : Below w.heap.size w w') : TabRes P l w (.returned (.tuple #[.agg #[.int .i64 f, v], .bool b])) w' :=
  ⟨v, by rw [h.1, h.2.1], by rw [h.2.2]; exact hs, hb⟩
/-- A list without its first number. -/
theorem sl_tail {w : World} {B b off n c : Nat} {y : Int} {ys : List Int} (h : Sl w B (.slice (some ⟨b, off, none⟩) n c) (y :: ys)) : Sl w B (.slice (some ⟨b, off + 1, none⟩) (n - 1) (c - 1)) ys ∧ w.cell? ⟨b, off, none⟩ = some (.int .i64 y) ∧ n = ys.length + 1 ∧ n ≤ c ∧ c ≤ 9223372036854775807 ∧ b < w.heap.size := by
  rcases h with ⟨h1, _⟩ | ⟨b', off', cap, cur, hv, hn, hl, hm, hB, hb, hc, hx⟩
  · cases h1
  · injection hv with e1 e2 e3
    injection e1 with e1
    injection e1 with e4 e5
    subst e2 e3 e4 e5
    have hlen : (y :: ys).length = ys.length + 1 := rfl
    rw [hlen] at hn hl hx ⊢
    refine ⟨.inr ⟨b, off + 1, _, cur, by rw [Nat.add_sub_cancel], by omega, by omega, by omega, hB, hb, by omega, fun i hi => ?_⟩, ?_, by omega, hl, hm, lt_of_get hb⟩
    · have := hx (i + 1) (by omega)
      rw [show off + 1 + i = off + (i + 1) by omega, this]; rfl
    · have := hx 0 (by omega)
      rw [Nat.add_zero] at this
      exact cell_of_block hb this
theorem sl_some {w : World} {B : Nat} {v : Value} {y : Int} {ys : List Int} (h : Sl w B v (y :: ys)) : ∃ b off n c, v = .slice (some ⟨b, off, none⟩) n c := by
  rcases h with ⟨_, h1⟩ | ⟨b', off', cap, cur, hv, _⟩
  · cases h1
  · exact ⟨_, _, _, _, hv⟩
theorem sl_nil (w : World) (B : Nat) : Sl w B (.slice none 0 0) [] := .inl ⟨rfl, rfl⟩
end Go.Proofs.YtmngljpncglchaaDoor.TabPlain
