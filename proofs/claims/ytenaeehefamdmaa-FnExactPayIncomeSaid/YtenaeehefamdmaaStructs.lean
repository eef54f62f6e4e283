/-
  Structs that came in by value, opened cell by cell: five fields of one cell; a struct of two cells and one more field.
  Conditions: as each lemma says; the kernel pays them at the program's own types.
-/
import Derived.Test.YtenaeehefamdmaaChecked
import Derived.Lib.SmallJoins
import Derived.ProofKit
namespace Go.Proofs.Ytenaeehefamdmaa.Structs
open Go.Joins Go.ChangeShapes Go.WideShapes Go.RowKit Go.Deep
set_option linter.unusedVariables false
variable {H : Type} {enc : TypeId × Value → H} {P : Program} {w : World} {base : Nat} {spare : Nat → Bool} {held : Bool}

theorem array5 {α : Type} {cs : Array α} (h : cs.size = 5) : ∃ a b c d e, cs = #[a, b, c, d, e] := by
  obtain ⟨l⟩ := cs
  match l, h with
  | [a, b, c, d, e], _ => exact ⟨a, b, c, d, e, rfl⟩

theorem open_agg21 {r : Reach} {b0 : Nat} {t : TypeId} {f0 f1 g0 g1 : Field} {v : Value} {d : DataW H} {p : List MemPlace} (hs : P.underlying t = some (.struct #[f0, f1])) (hs0 : P.underlying f0.type = some (.struct #[g0, g1]))
    (o0 : f0.offset = 0) (o1 : f1.offset = 2) (q0 : g0.offset = 0) (q1 : g1.offset = 1) (hC : P.cellsOf t = 3) (hC0 : P.cellsOf f0.type = 2) (hC1 : P.cellsOf f1.type = 1) (hD0 : P.cellsOf g0.type = 1) (hD1 : P.cellsOf g1.type = 1)
    (hv : Value.okWide P w r b0 t v) (h : DataW.Trod enc P w base spare held t v d p) :
    ∃ (v0 v1 v2 : Value) (y0 y1 y2 : DataW H × List MemPlace) (m n : Nat), v = .agg #[v0, v1, v2] ∧ DataW.trod enc P w base spare held m g0.type [v0] = some y0 ∧ DataW.trod enc P w base spare held m g1.type [v1] = some y1 ∧ DataW.trod enc P w base spare held n f1.type [v2] = some y2 := by
  obtain ⟨cs, rfl, hsz⟩ := okWide_struct hs hv
  obtain ⟨c0, c1, c2, rfl⟩ := array3 (hsz.trans hC)
  obtain ⟨fuel, hf⟩ := h
  obtain ⟨y0, y1, n, hx, _, h0, h1⟩ := trod_struct2 hs hf
  rw [o0, hC0] at h0
  rw [o1, hC1] at h1
  obtain ⟨z0, z1, m, _, _, k0, k1⟩ := trod_struct2 hs0 h0
  rw [q0, hD0] at k0
  rw [q1, hD1] at k1
  exact ⟨c0, c1, c2, z0, z1, y1, m, n, rfl, by simpa [Value.cells] using k0, by simpa [Value.cells] using k1, by simpa [Value.cells] using h1⟩

theorem open_agg5 {r : Reach} {b0 : Nat} {t : TypeId} {f0 f1 f2 f3 f4 : Field} {v : Value} {d : DataW H} {p : List MemPlace} (hs : P.underlying t = some (.struct #[f0, f1, f2, f3, f4])) (hone : oneCellFields P #[f0, f1, f2, f3, f4] = true) (hC : P.cellsOf t = 5)
    (hv : Value.okWide P w r b0 t v) (h : DataW.Trod enc P w base spare held t v d p) :
    ∃ (v0 v1 v2 v3 v4 : Value) (y0 y1 y2 y3 y4 : DataW H × List MemPlace) (n : Nat), v = .agg #[v0, v1, v2, v3, v4] ∧ True ∧ True ∧
      DataW.trod enc P w base spare held n f0.type [v0] = some y0 ∧ DataW.trod enc P w base spare held n f1.type [v1] = some y1 ∧ DataW.trod enc P w base spare held n f2.type [v2] = some y2 ∧ DataW.trod enc P w base spare held n f3.type [v3] = some y3 ∧ DataW.trod enc P w base spare held n f4.type [v4] = some y4 := by
  obtain ⟨cs, rfl, hsz⟩ := okWide_struct hs hv
  obtain ⟨c0, c1, c2, c3, c4, rfl⟩ := array5 (hsz.trans hC)
  obtain ⟨fuel, hf⟩ := h
  obtain ⟨xs, n, _, _, hl, hlen, hfl⟩ := DataW.trod_struct hs hf
  match xs, hlen with
  | [y0, y1, y2, y3, y4], _ =>
    have a0 := hfl 0 f0 rfl
    have a1 := hfl 1 f1 rfl
    have a2 := hfl 2 f2 rfl
    have a3 := hfl 3 f3 rfl
    have a4 := hfl 4 f4 rfl
    obtain ⟨o0, k0⟩ := hone_of hone 0 f0 rfl
    obtain ⟨o1, k1⟩ := hone_of hone 1 f1 rfl
    obtain ⟨o2, k2⟩ := hone_of hone 2 f2 rfl
    obtain ⟨o3, k3⟩ := hone_of hone 3 f3 rfl
    obtain ⟨o4, k4⟩ := hone_of hone 4 f4 rfl
    rw [o0, k0] at a0
    rw [o1, k1] at a1
    rw [o2, k2] at a2
    rw [o3, k3] at a3
    rw [o4, k4] at a4
    exact ⟨c0, c1, c2, c3, c4, y0, y1, y2, y3, y4, n, rfl, trivial, trivial, by simpa [Value.cells] using a0, by simpa [Value.cells] using a1, by simpa [Value.cells] using a2, by simpa [Value.cells] using a3, by simpa [Value.cells] using a4⟩
end Go.Proofs.Ytenaeehefamdmaa.Structs
