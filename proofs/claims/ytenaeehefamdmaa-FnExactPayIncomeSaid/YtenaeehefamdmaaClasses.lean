/-
  Contracts of the laws' helpers on a class (two slices and a number).
  Conditions: the slices have together at most 1048576 elements.
-/
import Derived.Test.YtenaeehefamdmaaHelpers
namespace Go.Proofs.Ytenaeehefamdmaa.Classes
open Go.RowKit Mem
set_option linter.unusedVariables false

theorem szClass_yes (ch : Int) (a1 a2 : Option Addr) (n1 c1 n2 c2 : Nat) (l : Int) (w : World) (hn1 : n1 ≤ 9223372036854775807) (hn2 : n2 ≤ 9223372036854775807) (h1 : (n1 : Int) + n2 ≤ l) (h2 : l ≤ 1048576) :
    Calls Try.prog 6 #[.agg #[.slice a1 n1 c1, .slice a2 n2 c2, .int .i64 ch], .int .i64 l] w fun e w' => e = .returned (.int .i64 (l - n1 - n2)) ∧ Below w.heap.size w w' := by
  go_enter Try.func6, Try.ntmps6
  go_wp2_with fail
  refine (Helpers.szInt64S_yes _ _ _ _ _ hn1 (by omega) h2).mono ?_; rintro e w1 ⟨rfl, rfl⟩
  go_wp2_with fail
  refine (Helpers.szInt64S_yes _ _ _ _ _ hn2 (by omega) (by omega)).mono ?_; rintro e w1 ⟨rfl, rfl⟩
  go_wp2
  go_ret
  exact ⟨rfl, b0 _ _⟩

theorem szClass_no (ch : Int) (a1 a2 : Option Addr) (n1 c1 n2 c2 : Nat) (l : Int) (w : World) (hn1 : n1 ≤ 9223372036854775807) (hn2 : n2 ≤ 9223372036854775807) (h0 : 0 ≤ l) (h1 : l < (n1 : Int) + n2) (h2 : l ≤ 1048576) :
    Calls Try.prog 6 #[.agg #[.slice a1 n1 c1, .slice a2 n2 c2, .int .i64 ch], .int .i64 l] w fun e w' => e = .returned (.int .i64 (-1)) ∧ Below w.heap.size w w' := by
  by_cases hc : (n1 : Int) ≤ l
  · go_enter Try.func6, Try.ntmps6
    go_wp2_with fail
    refine (Helpers.szInt64S_yes _ _ _ _ _ hn1 (by omega) h2).mono ?_; rintro e w1 ⟨rfl, rfl⟩
    go_wp2_with fail
    refine (Helpers.szInt64S_no _ _ _ _ _ hn2 (by omega) (by omega) (by omega)).mono ?_; rintro e w1 ⟨rfl, rfl⟩
    go_wp2
    go_ret
    exact ⟨rfl, b0 _ _⟩
  · go_enter Try.func6, Try.ntmps6
    go_wp2_with fail
    refine (Helpers.szInt64S_no _ _ _ _ _ hn1 (by omega) (by omega) h2).mono ?_; rintro e w1 ⟨rfl, rfl⟩
    go_wp2
    go_ret
    exact ⟨rfl, b0 _ _⟩

theorem b3 (w : World) (o1 o2 o3 : Obj) : Below w.heap.size w (((w.alloc o1).alloc o2).alloc o3) := (((Below.refl _ _).alloc (by omega) _).alloc (by simp) _).alloc (by simp <;> omega) _

set_option maxHeartbeats 400000 in
theorem toClass_any (ch : Int) (v1 v2 : Value) (xs ys : List Int) (w : World) (h1 : Arg w v1 xs) (h2 : Arg w v2 ys) (hn1 : xs.length ≤ 1048576) (hn2 : ys.length ≤ 1048576) :
    Calls Try.prog 8 #[.agg #[v1, v2, .int .i64 ch]] w fun e w' => ∃ u1 u2, e = .returned (.agg #[u1, u2, .int .i64 ch]) ∧ Sl w' w.heap.size u1 xs ∧ Sl w' w.heap.size u2 ys ∧ Below w.heap.size w w' := by
  have HA := Lib.hid h1
  have HB2 := Lib.hid h2
  clear h1 h2
  go_enter Try.func8, Try.ntmps8
  go_wp2_with fail
  refine (Helpers.toInt64S_any _ xs _ (HA.out.below (b3 _ _ _ _)) hn1).mono ?_
  rintro e w1 ⟨u, rfl, hs, hb⟩
  obtain ⟨ua, uc, rfl⟩ := sl_shape hs
  obtain ⟨hc, hf⟩ := bcell hb
  have hz : w.heap.size + 1 + 1 < w1.heap.size := by have := hb.size; simp at this; omega
  have HS := Lib.hid (sl_mono (B' := w.heap.size + 1 + 1 + 1) (by simp) hs)
  have HB := Lib.hid ((b3 _ _ _ _).trans (hb.mono (by simp <;> omega)) : Below w.heap.size w w1)
  clear hs hb
  go_wp2_with fail
  refine (Helpers.toInt64S_any _ ys _ (HB2.out.below (HB.out.setCell (by simp <;> omega) _)) hn2).mono ?_
  rintro e w2 ⟨u2, rfl, hs2, hb2⟩
  obtain ⟨ua2, uc2, rfl⟩ := sl_shape hs2
  have hc2 : ∀ b o, b < w.heap.size + 1 + 1 + 1 → w2.cell? ⟨b, o, none⟩ = (w1.setCell ⟨w.heap.size + 1 + 1, 0, none⟩ (.slice ua xs.length uc)).cell? ⟨b, o, none⟩ := fun b o h => (bcell hb2).1 b o (by simp; omega)
  have hf2 : ∀ b o, b < w.heap.size + 1 + 1 + 1 → w2.frozen? ⟨b, o, none⟩ = (w1.setCell ⟨w.heap.size + 1 + 1, 0, none⟩ (.slice ua xs.length uc)).frozen? ⟨b, o, none⟩ := fun b o h => (bcell hb2).2 b o (by simp; omega)
  have hz2 : w.heap.size + 1 + 1 < w2.heap.size := by have := hb2.size; simp at this; omega
  have HS1 := Lib.hid ((sl_setCell HS.out (p := ⟨w.heap.size + 1 + 1, 0, none⟩) (by simp) (.slice ua xs.length uc)).below hb2)
  have HS2 := Lib.hid (sl_mono (B' := w.heap.size + 1 + 1 + 1) (by simp; omega) hs2)
  have HBB := Lib.hid ((HB.out.setCell (p := ⟨w.heap.size + 1 + 1, 0, none⟩) (by simp <;> omega) (.slice ua xs.length uc)).trans (hb2.mono (by simp; omega)))
  clear hs2 hb2
  go_wp2
  refine bodyPost_ret (v := .agg #[.slice ua xs.length uc, .slice ua2 ys.length uc2, .int .i64 ch]) (by simp [results, Try.results8, go_sem, hc, hc2]) rfl ⟨_, _, rfl, ?_, ?_, ?_⟩
  · refine sl_mono (B := w.heap.size + 1 + 1 + 1) (by omega) ?_
    repeat (refine sl_setCell ?_ (by simp <;> omega) _)
    exact HS1.out
  · refine sl_mono (B := w.heap.size + 1 + 1 + 1) (by omega) ?_
    repeat (refine sl_setCell ?_ (by simp <;> omega) _)
    exact HS2.out
  · repeat (refine Below.setCell ?_ (by simp <;> omega) _)
    exact HBB.out

theorem eqClass_yes (ch : Int) (v1 v2 u1 u2 : Value) (xs ys : List Int) (w : World) (h1 : Rd w v1 xs) (h2 : Rd w v2 ys) (g1 : Rd w u1 xs) (g2 : Rd w u2 ys) :
    Calls Try.prog 10 #[.agg #[v1, v2, .int .i64 ch], .agg #[u1, u2, .int .i64 ch]] w fun e w' => e = .returned (.bool true) ∧ Below w.heap.size w w' := by
  have hr : ∀ o1 o2, Below w.heap.size w ((w.alloc o1).alloc o2) := fun o1 o2 => ((Below.refl _ _).alloc (by omega) _).alloc (by simp) _
  have HR := Lib.hid hr
  have H1 := Lib.hid h1
  have H2 := Lib.hid h2
  have G1 := Lib.hid g1
  have G2 := Lib.hid g2
  obtain ⟨a1, c1, rfl, _⟩ := rd_shape h1
  obtain ⟨a2, c2, rfl, _⟩ := rd_shape h2
  obtain ⟨a3, c3, rfl, _⟩ := rd_shape g1
  obtain ⟨a4, c4, rfl, _⟩ := rd_shape g2
  clear h1 h2 g1 g2 hr
  go_enter Try.func10, Try.ntmps10
  go_wp2_with fail
  refine (Lists.eqInt64S_yes _ _ xs _ (H1.out.below (HR.out _ _)) (G1.out.below (HR.out _ _))).mono ?_
  rintro e w1 ⟨rfl, hb⟩
  obtain ⟨hc, hf⟩ := bcell hb
  have hz : w.heap.size + 1 < w1.heap.size := by have := hb.size; simp at this; omega
  have HB := Lib.hid ((HR.out _ _).trans (hb.mono (by simp <;> omega)))
  clear hb
  go_wp2_with fail
  refine (Lists.eqInt64S_yes _ _ ys _ (H2.out.below HB.out) (G2.out.below HB.out)).mono ?_
  rintro e w2 ⟨rfl, hb2⟩
  have hc2 : ∀ b o, b < w.heap.size + 1 + 1 → w2.cell? ⟨b, o, none⟩ = w1.cell? ⟨b, o, none⟩ := fun b o h => (bcell hb2).1 b o (by omega)
  go_wp2
  go_ret
  exact ⟨rfl, HB.out.trans (hb2.mono (by omega))⟩
end Go.Proofs.Ytenaeehefamdmaa.Classes
