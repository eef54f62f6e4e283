/-
  What a slice of int64 reads as (Rd), what one that may be written reads as (Sl), and how these facts outlive calls that change nothing below a block (Below).
  Conditions: as each lemma says.
-/
import Derived.Test.YtkbdjhagmdaelaaBase
import Derived.WalkSmall
import Derived.Deep.QuietTactic
import Derived.BigQuiet
import Derived.Outline
namespace Go.Proofs.Ytkbdjhagmdaelaa.Mem
open Go.RowKit
set_option linter.unusedVariables false

/-- The slice v reads as the numbers xs: it is nil, or it leads to a row of cells that holds them. -/
def Rd (w : World) (v : Value) (xs : List Int) : Prop :=
  (v = .slice none 0 0 ∧ xs = []) ∨
  ∃ b off cap, v = .slice (some ⟨b, off, none⟩) xs.length cap ∧ xs.length ≤ 1000000000000 ∧ xs.length ≤ cap ∧ cap ≤ 9223372036854775807 ∧ b < w.heap.size ∧ ∀ i, i < xs.length → w.cell? ⟨b, off + i, none⟩ = some (.int .i64 (xs.getD i 0))

/-- The slice v reads as xs and is free to be written; it lies in a block from B on. -/
def Sl (w : World) (B : Nat) (v : Value) (xs : List Int) : Prop :=
  (v = .slice none 0 0 ∧ xs = []) ∨
  ∃ b off cap cur, v = .slice (some ⟨b, off, none⟩) xs.length cap ∧ xs.length ≤ 1000000000000 ∧ xs.length ≤ cap ∧ cap ≤ 9223372036854775807 ∧ B ≤ b ∧ w.heap[b]? = some (.cells cur 2 (0, 0)) ∧ off + cap = cur.size ∧ ∀ i, i < xs.length → cur[off + i]? = some (.int .i64 (xs.getD i 0))

theorem lt_of_get {w : World} {b : Nat} {o : Obj} (h : w.heap[b]? = some o) : b < w.heap.size := by
  rcases Nat.lt_or_ge b w.heap.size with g | g
  · exact g
  · rw [Array.getElem?_eq_none g] at h; cases h

theorem cell_of_block {w : World} {b : Nat} {cur : Array Value} {e : TypeId} {fz : Nat × Nat} {j : Nat} {v : Value} (h : w.heap[b]? = some (.cells cur e fz)) (hj : cur[j]? = some v) : w.cell? ⟨b, j, none⟩ = some v := by
  simp [World.cell?, h, hj]

theorem Sl.rd {w : World} {B : Nat} {v : Value} {xs : List Int} (h : Sl w B v xs) : Rd w v xs := by
  rcases h with h | ⟨b, off, cap, cur, hv, hn, hl, hm, hB, hb, hc, hx⟩
  · exact .inl h
  · exact .inr ⟨b, off, cap, hv, hn, hl, hm, lt_of_get hb, fun i hi => cell_of_block hb (hx i hi)⟩

theorem Rd.below {w w' : World} {v : Value} {xs : List Int} (h : Rd w v xs) (g : Below w.heap.size w w') : Rd w' v xs := by
  rcases h with h | ⟨b, off, cap, hv, hn, hl, hm, hb, hx⟩
  · exact .inl h
  · exact .inr ⟨b, off, cap, hv, hn, hl, hm, Nat.lt_of_lt_of_le hb g.size, fun i hi => (g.cell (p := ⟨b, off + i, none⟩) hb).trans (hx i hi)⟩

theorem Sl.below {w w' : World} {B : Nat} {v : Value} {xs : List Int} (h : Sl w B v xs) (g : Below w.heap.size w w') : Sl w' B v xs := by
  rcases h with h | ⟨b, off, cap, cur, hv, hn, hl, hm, hB, hb, hx⟩
  · exact .inl h
  · exact .inr ⟨b, off, cap, cur, hv, hn, hl, hm, hB, (g.block b (lt_of_get hb)).trans hb, hx⟩

/-- Two steps, each of which changes nothing that was there. -/
theorem bl {a b c : World} (h : Below a.heap.size a b) (k : Below b.heap.size b c) : Below a.heap.size a c := h.trans (k.mono h.size)
theorem blB {B : Nat} {a b c : World} (hB : B ≤ b.heap.size) (h : Below B a b) (k : Below b.heap.size b c) : Below B a c := h.trans (k.mono hB)
theorem bd (w : World) (n : Nat) : Below w.heap.size w (w.drewN n) := below_drewN (Below.refl _ _) n

/-- An append to a row of the call's own, one element laid ahead of it: nothing below B has changed. -/
theorem app_step {w0 w w1 : World} {B e n : Nat} {v : Value} {xs : List Value} {o : Obj} (h : Below B w0 w) (hB : B ≤ w.heap.size) (hown : w.ownsRow B e 1 v n xs) (hg : (w.alloc o).grownBy w1 v.ownBlock) : Below B w0 w1 ∧ B ≤ w1.heap.size := by
  have k := (h.alloc hB o).grown hg (by simp; omega) (fun k hk => (hown.lt k hk).1)
  exact ⟨k, by have := hg.size; simp at this; omega⟩

/-- A row of the call's own reads as a list, and is free to be written. -/
theorem sl_of_own {w : World} {B n : Nat} {v : Value} {xs : List Int} (h : w.ownsRow B 2 1 v n (xs.map (Value.int .i64))) (hn : xs.length ≤ 1000000000000) : Sl w B v xs := by
  obtain ⟨h1, h2⟩ := h
  rw [List.length_map] at h1
  rcases h2 with ⟨h2, h3⟩ | ⟨g, cap, cur, hv, hg, hh, hc, hm, hs, ht⟩
  · refine .inl ⟨h2, ?_⟩
    cases xs with
    | nil => rfl
    | cons a l => simp at h1; omega
  · refine .inr ⟨g, 0, cap, cur, by rw [hv]; simp only [Nat.mul_one] at h1; rw [h1], hn, by omega, by unfold maxLen at hm; omega, hg, hh, by omega, fun i hi => ?_⟩
    have : (cur.toList.take (n * 1))[i]? = some (.int .i64 (xs.getD i 0)) := by rw [ht, List.getElem?_map]; simp [List.getD, hi]
    rw [List.getElem?_take_of_lt (by omega)] at this
    simpa using this

theorem getD_lt {xs : List Int} {i : Nat} (h : i < xs.length) : xs.getD i 0 = xs[i] := by simp [List.getD, h]
theorem getD_mem {xs : List Int} {i : Nat} (h : i < xs.length) : xs.getD i 0 ∈ xs := by rw [getD_lt h]; exact List.getElem_mem h
theorem take_snoc (xs : List Int) (k : Nat) (h : k < xs.length) : xs.take (k + 1) = xs.take k ++ [xs.getD k 0] := by
  rw [List.take_succ_eq_append_getElem h, getD_lt h]
theorem sum_take_succ (xs : List Int) (k : Nat) (h : k < xs.length) : (xs.take (k + 1)).sum = (xs.take k).sum + xs.getD k 0 := by
  rw [take_snoc xs k h]; simp

/-- All numbers lie in a range. -/
def within (lo hi : Int) (xs : List Int) : Bool := xs.all fun x => decide (lo ≤ x ∧ x ≤ hi)
theorem within_get {lo hi : Int} {xs : List Int} (h : within lo hi xs = true) (i : Nat) (hi' : i < xs.length) : lo ≤ xs.getD i 0 ∧ xs.getD i 0 ≤ hi := by
  simp only [within, List.all_eq_true, decide_eq_true_eq] at h
  exact h _ (getD_mem hi')
theorem within_of {lo hi : Int} {xs : List Int} (h : ∀ i, i < xs.length → lo ≤ xs.getD i 0 ∧ xs.getD i 0 ≤ hi) : within lo hi xs = true := by
  simp only [within, List.all_eq_true, decide_eq_true_eq]
  intro x hx
  obtain ⟨i, hi, rfl⟩ := List.getElem_of_mem hx
  have := h i hi
  rwa [getD_lt hi] at this
theorem not_within {lo hi : Int} {xs : List Int} (i : Nat) (hi' : i < xs.length) (h : ¬ (lo ≤ xs.getD i 0 ∧ xs.getD i 0 ≤ hi)) : within lo hi xs = false := by
  cases e : within lo hi xs with
  | false => rfl
  | true => exact absurd (within_get e i hi') h

/-- A sum of at most n numbers, none greater than m in size. -/
theorem sum_bd (m : Int) (hm : 0 ≤ m) (xs : List Int) (h : within (-m) m xs = true) (k : Nat) (hk : k ≤ xs.length) : -(m * k) ≤ (xs.take k).sum ∧ (xs.take k).sum ≤ m * k := by
  induction k with
  | zero => simp
  | succ k ih =>
    have g := within_get h k (by omega)
    have := ih (by omega)
    rw [sum_take_succ xs k (by omega), show ((k + 1 : Nat) : Int) = (k : Int) + 1 from rfl, Int.mul_add, Int.mul_one]
    omega
theorem within_mono {lo hi lo' hi' : Int} {xs : List Int} (h : within lo hi xs = true) (h1 : lo' ≤ lo) (h2 : hi ≤ hi') : within lo' hi' xs = true :=
  within_of fun i hi => by have := within_get h i hi; omega
end Go.Proofs.Ytkbdjhagmdaelaa.Mem
