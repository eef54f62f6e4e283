/-
  Contracts of slices.Grow from nil and of slices.Concat of two rows of int64.
  Conditions: as each contract says.
-/
import Derived.Test.YtenaeehefamdmaaMem
import Derived.Lib.Walk
import Derived.Lib.SliceRun
import Derived.Lib.AppendZerosOnto
namespace Go.Proofs.Ytenaeehefamdmaa.Concats
open Go.RowKit Mem
set_option linter.unusedVariables false

theorem info64 : (Try.prog.info? 2).map (fun i => (i.zero, i.size, i.bytes)) = some (some (.int .i64 0), 1, 8) := by kernel_rfl

def Cells (w : World) (b o : Nat) (xs : List Int) : Prop := b < w.heap.size ∧ ∀ i, i < xs.length → w.cell? ⟨b, o + i, none⟩ = some (.int .i64 (xs.getD i 0))
theorem Cells.below {w w' : World} {b o : Nat} {xs : List Int} (h : Cells w b o xs) (g : Below w.heap.size w w') : Cells w' b o xs :=
  ⟨Nat.lt_of_lt_of_le h.1 g.size, fun i hi => (g.cell (p := ⟨b, o + i, none⟩) h.1).trans (h.2 i hi)⟩
theorem Cells.at {w : World} {b o : Nat} {xs : List Int} (h : Cells w b o xs) : ∀ j u, (xs.map (Value.int .i64))[j]? = some u → w.cell? ((⟨b, o, none⟩ : Addr).add j) = some u := fun j u hj => by
  rw [List.getElem?_map] at hj
  obtain ⟨z, hz, rfl⟩ := Option.map_eq_some_iff.1 hj
  obtain ⟨hl, rfl⟩ := List.getElem?_eq_some_iff.1 hz
  have e : (⟨b, o, none⟩ : Addr).add j = ⟨b, o + j, none⟩ := by cases j <;> simp [Addr.add]
  rw [e]
  simpa [List.getD, hl] using h.2 j hl
theorem oneCells {xs : List Int} : ∀ u ∈ xs.map (Value.int .i64), u.oneCell' = true := fun u hu => by
  obtain ⟨z, _, rfl⟩ := List.mem_map.1 hu
  rfl

theorem app_step0 {w0 w w1 : World} {e n : Nat} {v : Value} {xs : List Value} (h : Below w0.heap.size w0 w) (hown : w.ownsRow w0.heap.size e 1 v n xs) (hg : w.grownBy w1 v.ownBlock) : Below w0.heap.size w0 w1 :=
  h.grown hg h.size (fun k hk => (hown.lt k hk).1)
theorem zeros_own {w : World} {B n : Nat} {v : Value} (h : w.ownsRow B 2 1 v n (madeCells (Value.int .i64 0).cells (n * 1)).toList) : w.ownsRow B 2 1 v n ((List.replicate n (0 : Int)).map (Value.int .i64)) := by
  have e : (madeCells (Value.int .i64 0).cells (n * 1)).toList = (List.replicate n (0 : Int)).map (Value.int .i64) := by
    rw [Nat.mul_one, List.map_replicate]
    simp only [madeCells, Array.toList_map, Array.toList_range]
    refine List.eq_replicate_iff.2 ⟨by simp, fun x hx => ?_⟩
    obtain ⟨j, _, rfl⟩ := List.mem_map.1 hx
    have e1 : (Value.int .i64 0).cells.size = 1 := rfl
    rw [e1, Nat.mod_one]
    rfl
  rw [e] at h
  exact h
theorem made_below {w w1 : World} (h : w.grownBy w1 none) : Below w.heap.size w w1 := (Below.refl _ _).grown h (Nat.le_refl _) (fun k hk => by cases hk)
end Go.Proofs.Ytenaeehefamdmaa.Concats
