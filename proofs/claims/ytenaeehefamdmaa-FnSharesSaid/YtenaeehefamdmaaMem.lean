/-
  What a slice of int64 reads as (Rd), what one that may be written reads as (Sl), and how these facts outlive calls that change nothing below a block (Below).
  Conditions: as each lemma says.
-/
import Derived.Test.YtenaeehefamdmaaBase
import Derived.WalkSmall
import Derived.Deep.QuietTactic
import Derived.BigQuiet
import Derived.Outline
import Derived.OpenShut
namespace Go.Proofs.Ytenaeehefamdmaa.Mem
open Go.RowKit
set_option linter.unusedVariables false

/-- The slice v reads as the numbers xs: it is nil, or it leads to a row of cells that holds them. -/
def Rd (w : World) (v : Value) (xs : List Int) : Prop :=
  (v = .slice none 0 0 ∧ xs = []) ∨
  ∃ b off cap, v = .slice (some ⟨b, off, none⟩) xs.length cap ∧ xs.length ≤ 1000000000000 ∧ xs.length ≤ cap ∧ cap ≤ 9223372036854775807 ∧ b < w.heap.size ∧ ∀ i, i < xs.length → w.cell? ⟨b, off + i, none⟩ = some (.int .i64 (xs.getD i 0))

/-- The slice v reads as xs and is free to be written; it lies in a block from B on. -/
def Sl (w : World) (B : Nat) (v : Value) (xs : List Int) : Prop :=
  (v = .slice none 0 0 ∧ xs = []) ∨
  ∃ b off cap cur, v = .slice (some ⟨b, off, none⟩) xs.length cap ∧ xs.length ≤ 1000000000000 ∧ xs.length ≤ cap ∧ cap ≤ 9223372036854775807 ∧ B ≤ b ∧ w.heap[b]? = some (.cells cur 2 (0, 0)) ∧ off + cap = cur.size ∧ ∀ i, i < xs.length → cur[off + i]? = some (.int .i64 (xs.getD i 0))

theorem lt_of_get {w : World} {b : Nat} {o : Obj} (h : w.heap[b]? = some o) : b < w.heap.size := by
  rcases Nat.lt_or_ge b w.heap.size with g | g
  · exact g
  · rw [Array.getElem?_eq_none g] at h; cases h

theorem cell_of_block {w : World} {b : Nat} {cur : Array Value} {e : TypeId} {fz : Nat × Nat} {j : Nat} {v : Value} (h : w.heap[b]? = some (.cells cur e fz)) (hj : cur[j]? = some v) : w.cell? ⟨b, j, none⟩ = some v := by
  simp [World.cell?, h, hj]

theorem Sl.rd {w : World} {B : Nat} {v : Value} {xs : List Int} (h : Sl w B v xs) : Rd w v xs := by
  rcases h with h | ⟨b, off, cap, cur, hv, hn, hl, hm, hB, hb, hc, hx⟩
  · exact .inl h
  · exact .inr ⟨b, off, cap, hv, hn, hl, hm, lt_of_get hb, fun i hi => cell_of_block hb (hx i hi)⟩

theorem Rd.below {w w' : World} {v : Value} {xs : List Int} (h : Rd w v xs) (g : Below w.heap.size w w') : Rd w' v xs := by
  rcases h with h | ⟨b, off, cap, hv, hn, hl, hm, hb, hx⟩
  · exact .inl h
  · exact .inr ⟨b, off, cap, hv, hn, hl, hm, Nat.lt_of_lt_of_le hb g.size, fun i hi => (g.cell (p := ⟨b, off + i, none⟩) hb).trans (hx i hi)⟩

theorem Sl.below {w w' : World} {B : Nat} {v : Value} {xs : List Int} (h : Sl w B v xs) (g : Below w.heap.size w w') : Sl w' B v xs := by
  rcases h with h | ⟨b, off, cap, cur, hv, hn, hl, hm, hB, hb, hx⟩
  · exact .inl h
  · exact .inr ⟨b, off, cap, cur, hv, hn, hl, hm, hB, (g.block b (lt_of_get hb)).trans hb, hx⟩

theorem getD_lt {xs : List Int} {i : Nat} (h : i < xs.length) : xs.getD i 0 = xs[i] := by simp [List.getD, h]

/-- What the law's own frame tells of a slice of integers that came in. -/
def IsRow (k : IntKind) (w : World) (a : Option Addr) (len cap : Nat) (zs : List Int) : Prop :=
  (a = none ∧ len = 0 ∧ cap = 0 ∧ zs = []) ∨
  ∃ x, a = some x ∧ len ≤ cap ∧ cap ≤ maxLen ∧ zs.length = cap ∧ (∀ i, i < zs.length → w.cell? (x.add i) = some (.int k (zs.getD i 0))) ∧ ∀ n ∈ zs, (Lit.int k n).wf = true

/-- A slice that came in: of no element, its address whatever; or it reads as the numbers xs. -/
def Arg (w : World) (v : Value) (xs : List Int) : Prop := (∃ a c, v = .slice a 0 c ∧ xs = []) ∨ Rd w v xs

theorem arg_of_row {w : World} {a : Option Addr} {len cap : Nat} {zs : List Int} (h : IsRow .i64 w a len cap zs) (hn : len ≤ 1000000000000) : Arg w (.slice a len cap) (zs.take len) := by
  rcases h with ⟨rfl, rfl, rfl, rfl⟩ | ⟨x, rfl, hl, hm, hz, hc, hw⟩
  · exact .inl ⟨_, _, rfl, rfl⟩
  · by_cases h0 : len = 0
    · subst h0; exact .inl ⟨_, _, rfl, rfl⟩
    · obtain ⟨b, off, spot⟩ := x
      have c0 := hc 0 (by omega)
      have hs : spot = none := by simpa [Addr.add] using World.cell?_spot c0
      subst hs
      have hlen : (zs.take len).length = len := by rw [List.length_take]; omega
      refine .inr (.inr ⟨b, off, cap, by rw [hlen], by omega, by omega, by unfold maxLen at hm; omega, World.block_lt_of_cell? w _ c0, fun i hi => ?_⟩)
      have hi' : i < len := by omega
      have := hc i (by omega)
      rw [show (⟨b, off, none⟩ : Addr).add i = ⟨b, off + i, none⟩ from by by_cases e : i = 0 <;> simp [Addr.add, e]] at this
      rw [this]
      simp [List.getD, hi']

theorem row_len {w : World} {a : Option Addr} {len cap : Nat} {zs : List Int} (h : IsRow .i64 w a len cap zs) : len ≤ 9223372036854775807 ∧ (zs.take len).length = len := by
  rcases h with ⟨rfl, rfl, rfl, rfl⟩ | ⟨x, rfl, hl, hm, hz, hc, hw⟩
  · simp
  · unfold maxLen at hm; rw [List.length_take]; omega

theorem row_wf {w : World} {a : Option Addr} {len cap : Nat} {zs : List Int} (h : IsRow .i64 w a len cap zs) (i : Nat) (hi : i < (zs.take len).length) : -9223372036854775808 ≤ (zs.take len).getD i 0 ∧ (zs.take len).getD i 0 ≤ 9223372036854775807 := by
  have hm : (zs.take len).getD i 0 ∈ zs := by
    rw [getD_lt hi]; exact List.mem_of_mem_take (List.getElem_mem hi)
  rcases h with ⟨rfl, rfl, rfl, rfl⟩ | ⟨x, rfl, hl, hmx, hz, hc, hw⟩
  · simp at hi
  · exact bounds_i64 (hw _ hm)

theorem Arg.below {w w' : World} {v : Value} {xs : List Int} (h : Arg w v xs) (g : Below w.heap.size w w') : Arg w' v xs := by
  rcases h with h | h
  · exact .inl h
  · exact .inr (h.below g)

theorem sl_mono {w : World} {B B' : Nat} {v : Value} {xs : List Int} (hB : B' ≤ B) (h : Sl w B v xs) : Sl w B' v xs := by
  rcases h with h | ⟨b, off, cap, cur, hv, hn, hl, hm, hb, r⟩
  · exact .inl h
  · exact .inr ⟨b, off, cap, cur, hv, hn, hl, hm, Nat.le_trans hB hb, r⟩

theorem sl_setCell {w : World} {B : Nat} {v : Value} {xs : List Int} (h : Sl w B v xs) {p : Addr} (hp : p.block < B) (x : Value) : Sl (w.setCell p x) B v xs := by
  rcases h with h | ⟨b, off, cap, cur, hv, hn, hl, hm, hB, hb, hx⟩
  · exact .inl h
  · exact .inr ⟨b, off, cap, cur, hv, hn, hl, hm, hB, (Below.heap_setCell _ _ _ _ (by omega)).trans hb, hx⟩
theorem sl_shape {w : World} {B : Nat} {v : Value} {xs : List Int} (h : Sl w B v xs) : ∃ a c, v = .slice a xs.length c := by
  rcases h with ⟨rfl, rfl⟩ | ⟨b, off, cap, cur, rfl, _⟩
  · exact ⟨_, _, rfl⟩
  · exact ⟨_, _, rfl⟩
theorem rd_shape {w : World} {v : Value} {xs : List Int} (h : Rd w v xs) : ∃ a c, v = .slice a xs.length c ∧ xs.length ≤ 1000000000000 := by
  rcases h with ⟨rfl, rfl⟩ | ⟨b, off, cap, rfl, hn, _⟩
  · exact ⟨_, _, rfl, by simp⟩
  · exact ⟨_, _, rfl, hn⟩

/-- A block of two, of three cells, as a later world holds it. -/
def Box2 (w : World) (b : Nat) (x y : Value) : Prop := w.cell? ⟨b, 0, none⟩ = some x ∧ w.cell? ⟨b, 1, none⟩ = some y ∧ b < w.heap.size
def Box3 (w : World) (b : Nat) (x y z : Value) : Prop := w.cell? ⟨b, 0, none⟩ = some x ∧ w.cell? ⟨b, 1, none⟩ = some y ∧ w.cell? ⟨b, 2, none⟩ = some z ∧ b < w.heap.size
theorem Box2.below {w w1 : World} {b : Nat} {x y : Value} (h : Box2 w b x y) (hb : Below w.heap.size w w1) : Box2 w1 b x y :=
  ⟨(hb.cell (p := ⟨b, 0, none⟩) h.2.2).trans h.1, (hb.cell (p := ⟨b, 1, none⟩) h.2.2).trans h.2.1, Nat.lt_of_lt_of_le h.2.2 hb.size⟩
theorem Box3.below {w w1 : World} {b : Nat} {x y z : Value} (h : Box3 w b x y z) (hb : Below w.heap.size w w1) : Box3 w1 b x y z :=
  ⟨(hb.cell (p := ⟨b, 0, none⟩) h.2.2.2).trans h.1, (hb.cell (p := ⟨b, 1, none⟩) h.2.2.2).trans h.2.1, (hb.cell (p := ⟨b, 2, none⟩) h.2.2.2).trans h.2.2.1, Nat.lt_of_lt_of_le h.2.2.2 hb.size⟩
theorem box2_new (w : World) (x y : Value) (e : TypeId) : Box2 (w.alloc (.cells #[x, y] e)) w.heap.size x y := ⟨by simp [go_sem], by simp [go_sem], by simp⟩
theorem box3_new (w : World) (x y z : Value) (e : TypeId) : Box3 (w.alloc (.cells #[x, y, z] e)) w.heap.size x y z := ⟨by simp [go_sem], by simp [go_sem], by simp [go_sem], by simp⟩
theorem b0 (w : World) (o : Obj) : Below w.heap.size w (w.alloc o) := (Below.refl _ _).alloc (Nat.le_refl _) o

theorem undrew {w w1 : World} (h : Below w.drew.heap.size w.drew w1) : Below w.heap.size w w1 := ⟨h.os, h.tape, h.output, h.size, h.block⟩

/-- All that lay below reads as before: rules for the walk. -/
theorem bcell {W w1 : World} (hb : Below W.heap.size W w1) : (∀ b o, b < W.heap.size → w1.cell? ⟨b, o, none⟩ = W.cell? ⟨b, o, none⟩) ∧ (∀ b o, b < W.heap.size → w1.frozen? ⟨b, o, none⟩ = W.frozen? ⟨b, o, none⟩) :=
  ⟨fun b o h => hb.cell (p := ⟨b, o, none⟩) h, fun b o h => hb.frozen (p := ⟨b, o, none⟩) h⟩

/-- Two steps, each of which changes nothing that was there. -/
theorem bl {a b c : World} (h : Below a.heap.size a b) (k : Below b.heap.size b c) : Below a.heap.size a c := h.trans (k.mono h.size)
theorem blB {B : Nat} {a b c : World} (hB : B ≤ b.heap.size) (h : Below B a b) (k : Below b.heap.size b c) : Below B a c := h.trans (k.mono hB)
theorem bd (w : World) (n : Nat) : Below w.heap.size w (w.drewN n) := below_drewN (Below.refl _ _) n

/-- An append to a row of the call's own, one element laid ahead of it: nothing below B has changed. -/
theorem app_step {w0 w w1 : World} {B e n : Nat} {v : Value} {xs : List Value} {o : Obj} (h : Below B w0 w) (hB : B ≤ w.heap.size) (hown : w.ownsRow B e 1 v n xs) (hg : (w.alloc o).grownBy w1 v.ownBlock) : Below B w0 w1 ∧ B ≤ w1.heap.size := by
  have k := (h.alloc hB o).grown hg (by simp; omega) (fun k hk => (hown.lt k hk).1)
  exact ⟨k, by have := hg.size; simp at this; omega⟩

theorem own_shape {w : World} {B e s n : Nat} {v : Value} {xs : List Value} (h : w.ownsRow B e s v n xs) : ∃ a c, v = .slice a n c := by
  rcases h.2 with ⟨rfl, rfl⟩ | ⟨g, cap, cur, rfl, _⟩
  · exact ⟨_, _, rfl⟩
  · exact ⟨_, _, rfl⟩
def lenOf : Value → Nat | .slice _ n _ => n | _ => 0

/-- A row of the call's own reads as a list, and is free to be written. -/
theorem sl_of_own {w : World} {B n : Nat} {v : Value} {xs : List Int} (h : w.ownsRow B 2 1 v n (xs.map (Value.int .i64))) (hn : xs.length ≤ 1000000000000) : Sl w B v xs := by
  obtain ⟨h1, h2⟩ := h
  rw [List.length_map] at h1
  rcases h2 with ⟨h2, h3⟩ | ⟨g, cap, cur, hv, hg, hh, hc, hm, hs, ht⟩
  · refine .inl ⟨h2, ?_⟩
    cases xs with
    | nil => rfl
    | cons a l => simp at h1; omega
  · refine .inr ⟨g, 0, cap, cur, by rw [hv]; simp only [Nat.mul_one] at h1; rw [h1], hn, by omega, by unfold maxLen at hm; omega, hg, hh, by omega, fun i hi => ?_⟩
    have : (cur.toList.take (n * 1))[i]? = some (.int .i64 (xs.getD i 0)) := by rw [ht, List.getElem?_map]; simp [List.getD, hi]
    rw [List.getElem?_take_of_lt (by omega)] at this
    simpa using this

theorem getD_mem {xs : List Int} {i : Nat} (h : i < xs.length) : xs.getD i 0 ∈ xs := by rw [getD_lt h]; exact List.getElem_mem h
theorem take_snoc (xs : List Int) (k : Nat) (h : k < xs.length) : xs.take (k + 1) = xs.take k ++ [xs.getD k 0] := by
  rw [List.take_succ_eq_append_getElem h, getD_lt h]
theorem sum_take_succ (xs : List Int) (k : Nat) (h : k < xs.length) : (xs.take (k + 1)).sum = (xs.take k).sum + xs.getD k 0 := by
  rw [take_snoc xs k h]; simp

/-- All numbers lie in a range. -/
def within (lo hi : Int) (xs : List Int) : Bool := xs.all fun x => decide (lo ≤ x ∧ x ≤ hi)
theorem within_get {lo hi : Int} {xs : List Int} (h : within lo hi xs = true) (i : Nat) (hi' : i < xs.length) : lo ≤ xs.getD i 0 ∧ xs.getD i 0 ≤ hi := by
  simp only [within, List.all_eq_true, decide_eq_true_eq] at h
  exact h _ (getD_mem hi')
theorem within_of {lo hi : Int} {xs : List Int} (h : ∀ i, i < xs.length → lo ≤ xs.getD i 0 ∧ xs.getD i 0 ≤ hi) : within lo hi xs = true := by
  simp only [within, List.all_eq_true, decide_eq_true_eq]
  intro x hx
  obtain ⟨i, hi, rfl⟩ := List.getElem_of_mem hx
  have := h i hi
  rwa [getD_lt hi] at this
theorem not_within {lo hi : Int} {xs : List Int} (i : Nat) (hi' : i < xs.length) (h : ¬ (lo ≤ xs.getD i 0 ∧ xs.getD i 0 ≤ hi)) : within lo hi xs = false := by
  cases e : within lo hi xs with
  | false => rfl
  | true => exact absurd (within_get e i hi') h

/-- A sum of at most n numbers, none greater than m in size. -/
theorem sum_bd (m : Int) (hm : 0 ≤ m) (xs : List Int) (h : within (-m) m xs = true) (k : Nat) (hk : k ≤ xs.length) : -(m * k) ≤ (xs.take k).sum ∧ (xs.take k).sum ≤ m * k := by
  induction k with
  | zero => simp
  | succ k ih =>
    have g := within_get h k (by omega)
    have := ih (by omega)
    rw [sum_take_succ xs k (by omega), show ((k + 1 : Nat) : Int) = (k : Int) + 1 from rfl, Int.mul_add, Int.mul_one]
    omega
theorem within_mono {lo hi lo' hi' : Int} {xs : List Int} (h : within lo hi xs = true) (h1 : lo' ≤ lo) (h2 : hi ≤ hi') : within lo' hi' xs = true :=
  within_of fun i hi => by have := within_get h i hi; omega
end Go.Proofs.Ytenaeehefamdmaa.Mem
