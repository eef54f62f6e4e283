/-
  What an income pays: plain facts, and the words for results of PayIncome.
  Conditions: as each lemma says.
-/
import Derived.Test.YtenaeehefamdmaaOwns
import Derived.Test.YtenaeehefamdmaaLiving
namespace Go.Proofs.Ytenaeehefamdmaa.Pays
open Go.RowKit Mem IsClasses Living Owns Concats
set_option linter.unusedVariables false

/-- What member i gets. -/
def pv (sh de : List Int) (ea : Int) (i : Nat) : Int := if has de (i : Int) then 0 else ea * sh.getD i 0
/-- What the first k members get; the others nothing. -/
def paidL (sh de : List Int) (ea : Int) (n k : Nat) : List Int := (List.range n).map fun i => if i < k then pv sh de ea i else 0
theorem paid_len (sh de : List Int) (ea : Int) (n k : Nat) : (paidL sh de ea n k).length = n := by simp [paidL]
theorem paid_zero (sh de : List Int) (ea : Int) (n : Nat) : paidL sh de ea n 0 = List.replicate n 0 := by
  unfold paidL
  refine List.eq_replicate_iff.2 ⟨by simp, fun x hx => ?_⟩
  obtain ⟨i, _, rfl⟩ := List.mem_map.1 hx
  simp
theorem paid_get (sh de : List Int) (ea : Int) (n k i : Nat) (h : i < (paidL sh de ea n k).length) : (paidL sh de ea n k)[i] = if i < k then pv sh de ea i else 0 := by simp [paidL]
theorem paid_step (sh de : List Int) (ea : Int) (n k : Nat) (hk : k < n) : (paidL sh de ea n k).set k (pv sh de ea k) = paidL sh de ea n (k + 1) := by
  refine List.ext_getElem (by rw [List.length_set, paid_len, paid_len]) fun i h1 h2 => ?_
  rw [List.getElem_set, paid_get, paid_get]
  by_cases e : k = i
  · subst e; rw [if_pos rfl, if_pos (by omega)]
  · rw [if_neg e]
    by_cases g : i < k
    · rw [if_pos g, if_pos (by omega)]
    · rw [if_neg g, if_neg (by omega)]
theorem paid_skip (sh de : List Int) (ea : Int) (n k : Nat) (h : has de (k : Int) = true) : paidL sh de ea n k = paidL sh de ea n (k + 1) := by
  unfold paidL
  refine List.map_congr_left fun i _ => ?_
  by_cases e : i = k
  · subst e; rw [if_neg (by omega), if_pos (by omega)]; unfold pv; rw [h]; rfl
  · by_cases g : i < k
    · rw [if_pos g, if_pos (by omega)]
    · rw [if_neg g, if_neg (by omega)]
theorem paid_at (sh de : List Int) (ea : Int) (n k : Nat) (hk : k < n) : ((paidL sh de ea n k).map (Value.int .i64))[k]? = some (.int .i64 0) := by
  rw [List.getElem?_map]
  unfold paidL
  rw [List.getElem?_map, List.getElem?_range hk]
  simp

/-- A block of three cells, free to be written. -/
def FBox (w : World) (q : Nat) (x y z : Value) : Prop := w.heap[q]? = some (.cells #[x, y, z] 26 (0, 0))
theorem FBox.lt {w : World} {q : Nat} {x y z : Value} (h : FBox w q x y z) : q < w.heap.size := lt_of_get h
theorem FBox.parts {w : World} {q : Nat} {x y z : Value} (h : FBox w q x y z) : w.cell? ⟨q, 0, none⟩ = some x ∧ w.cell? ⟨q, 1, none⟩ = some y ∧ w.cell? ⟨q, 2, none⟩ = some z ∧ (∀ o, w.frozen? ⟨q, o, none⟩ = false) ∧ q < w.heap.size :=
  ⟨cell_of_block h rfl, cell_of_block h rfl, cell_of_block h rfl, fun o => frozen_of_row w q o _ _ h, lt_of_get h⟩
theorem FBox.below {w w1 : World} {q : Nat} {x y z : Value} (h : FBox w q x y z) (hb : Below w.heap.size w w1) : FBox w1 q x y z := (hb.block q (lt_of_get h)).trans h
theorem FBox.below' {B : Nat} {w w1 : World} {q : Nat} {x y z : Value} (h : FBox w q x y z) (hq : q < B) (hb : Below B w w1) : FBox w1 q x y z := (hb.block q hq).trans h
theorem fbox_new (w : World) (x y z : Value) : FBox (w.alloc (.cells #[x, y, z] 26)) w.heap.size x y z := heap_alloc_new w _
theorem FBox.set2 {w : World} {q : Nat} {x y z : Value} (h : FBox w q x y z) (u : Value) : FBox (w.setCell ⟨q, 2, none⟩ u) q x y u := heap_setCell_same w q 2 _ _ u h
theorem FBox.other {w : World} {q : Nat} {x y z : Value} (h : FBox w q x y z) {p : Addr} (hp : q ≠ p.block) (u : Value) : FBox (w.setCell p u) q x y z := (heap_setCell_other w p q u hp).trans h

/-- What PayIncome gives, of a class and an income that are in order. -/
def PayIs (sh de : List Int) (ch inc : Int) (S D P : List Int) (C K : Int) : Prop :=
  (0 < lv sh de sh.length ∧ S = sh ∧ D = de ∧ P = paidL sh de ((ch + inc) / lv sh de sh.length) sh.length sh.length ∧ C = (ch + inc) % lv sh de sh.length ∧ K = 0) ∨
  (lv sh de sh.length = 0 ∧ ch + inc ≤ 1000000000000 ∧ S = sh ∧ D = de ∧ P = paidL sh de 0 sh.length 0 ∧ C = ch + inc ∧ K = 0) ∨
  (lv sh de sh.length = 0 ∧ 1000000000000 < ch + inc ∧ S = [] ∧ D = [] ∧ P = [] ∧ C = 0 ∧ K = 3)
/-- Where the results lie. -/
def Lies (B : Nat) (w : World) (u1 u2 p : Value) (S D P : List Int) : Prop := Sl w B u1 S ∧ Sl w B u2 D ∧ Sl w B p P ∧ Sep u1 u2 ∧ Sep u1 p ∧ Sep u2 p
def PayEnd (sh de : List Int) (ch inc : Int) (w : World) (e : Ending) (w' : World) : Prop := ∃ S D P C K u1 u2 p, PayIs sh de ch inc S D P C K ∧ e = .returned (.tuple #[.agg #[u1, u2, .int .i64 C], p, .int .i64 K]) ∧ Lies w.heap.size w' u1 u2 p S D P ∧ Below w.heap.size w w'
end Go.Proofs.Ytenaeehefamdmaa.Pays
