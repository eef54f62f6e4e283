/-
  Contracts of the reference's draws of lists.
  Conditions: the code has at most 4096 bytes. What is drawn is some list of int64 of at most 200 elements: no more is said.
-/
import Derived.Test.YtenaeehefamdmaaDraws3
namespace Go.Proofs.Ytenaeehefamdmaa.Draws
open Go.RowKit Mem
set_option linter.unusedVariables false

theorem infoD : (Try.prog.info? 2).map (fun i => (i.zero, i.size, i.bytes)) = some (some (.int .i64 0), 1, 8) := by kernel_rfl

theorem own_keep {w w' : World} {B e n p : Nat} {v : Value} {xs : List Value} (h : w.ownsRow B e 1 v n xs) (hp : p < B) (g : w.grownBy w' (some p)) : w'.ownsRow B e 1 v n xs :=
  h.kept g (by
    cases hv : v.ownBlock with
    | none => exact .inl rfl
    | some k => right; intro e; injection e with e; have := (h.lt k hv).1; omega)

/-- An append to a row of the call's own that lies behind the source. -/
theorem app_draw {w0 w w1 : World} {B0 B e n p : Nat} {v : Value} {xs : List Value} {o : Obj} (h : Below B0 w0 w) (hB0 : B0 ≤ B) (hB : B ≤ w.heap.size) (hp : p < B) (hs : Src w p) (hown : w.ownsRow B e 1 v n xs) (hg : (w.alloc o).grownBy w1 v.ownBlock) :
    Below B0 w0 w1 ∧ B ≤ w1.heap.size ∧ Src w1 p := by
  have k := (h.alloc (Nat.le_trans hB0 hB) o).grown hg (by simp; omega) (fun k hk => Nat.le_trans hB0 (hown.lt k hk).1)
  have hs1 := hg.size
  simp at hs1
  refine ⟨k, by omega, hs.keep fun i hi => ?_⟩
  have hi2 : i < w.heap.size := by omega
  exact (hg.block i (by simp; omega) (fun e => by have := (hown.lt i e.symm).1; omega)).trans (Below.heap_alloc w o i hi2)

def AllI64 (xs : List Int) : Prop := ∀ x ∈ xs, I64 x
theorem all_snoc {xs : List Int} {x : Int} (h : AllI64 xs) (g : I64 x) : AllI64 (xs ++ [x]) := fun y hy => by
  rcases List.mem_append.1 hy with hy | hy
  · exact h y hy
  · rw [List.mem_singleton.1 hy]; exact g
theorem all_zero (n : Nat) : AllI64 (List.replicate n 0) := fun y hy => by
  rw [List.eq_of_mem_replicate hy]; unfold I64; omega

/-- The list under construction. -/
def Building (B p : Nat) (w : World) (v : Value) (n : Nat) : Prop := ∃ ys : List Int, w.ownsRow B 2 1 v n (ys.map (Value.int .i64)) ∧ AllI64 ys ∧ Src w p ∧ B ≤ w.heap.size
theorem Building.len {B p : Nat} {w : World} {v : Value} {n : Nat} (h : Building B p w v n) : ∃ a c, v = .slice a n c := by
  obtain ⟨ys, h, _⟩ := h; exact own_shape h

def ListInt (w : World) (e : Ending) (w' : World) : Prop := ∃ (v : Value) (xs : List Int) (r : Int), e = .returned (.tuple #[v, .int .i64 r]) ∧ Rd w' v xs ∧ xs.length ≤ 200 ∧ AllI64 xs ∧ I64 r ∧ Below w.heap.size w w'
def ListOne (w : World) (e : Ending) (w' : World) : Prop := ∃ (v : Value) (xs : List Int), e = .returned v ∧ Rd w' v xs ∧ xs.length ≤ 200 ∧ AllI64 xs ∧ Below w.heap.size w w'

end Go.Proofs.Ytenaeehefamdmaa.Draws
