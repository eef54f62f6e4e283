/-
  Contracts of the laws' own helpers on tables (a first age and a slice): sizes, copies, comparison.
  Conditions: a slice has at most 1048576 elements.
-/
import Derived.Test.YtochnbljjlloiaaHelpers
namespace Go.Proofs.Ytochnbljjlloiaa.Tables
open Go.RowKit Mem
set_option linter.unusedVariables false

theorem szLifeTable_yes (f : Int) (a : Option Addr) (n c : Nat) (l : Int) (w : World) (hn : n ≤ 9223372036854775807) (h1 : (n : Int) ≤ l) (h2 : l ≤ 1048576) :
    Calls Try.prog 15 #[.agg #[.int .i64 f, .slice a n c], .int .i64 l] w fun e w' => e = .returned (.int .i64 (l - n)) ∧ Below w.heap.size w w' := by
  go_enter Try.func15, Try.ntmps15
  go_wp2_with (first | (go_at_call 57; refine (Helpers.szInt64S_yes _ _ _ _ _ hn h1 h2).mono ?_; rintro e w' ⟨rfl, rfl⟩))
  go_ret
  exact ⟨rfl, (Below.refl _ _).alloc (by omega) _⟩

theorem szLifeTable_no (f : Int) (a : Option Addr) (n c : Nat) (l : Int) (w : World) (hn : n ≤ 9223372036854775807) (h0 : 0 ≤ l) (h1 : l < (n : Int)) (h2 : l ≤ 1048576) :
    Calls Try.prog 15 #[.agg #[.int .i64 f, .slice a n c], .int .i64 l] w fun e w' => e = .returned (.int .i64 (-1)) ∧ Below w.heap.size w w' := by
  go_enter Try.func15, Try.ntmps15
  go_wp2_with (first | (go_at_call 57; refine (Helpers.szInt64S_no _ _ _ _ _ hn h0 h1 h2).mono ?_; rintro e w' ⟨rfl, rfl⟩))
  go_ret
  exact ⟨rfl, (Below.refl _ _).alloc (by omega) _⟩

theorem toLifeTable_any (f : Int) (v : Value) (xs : List Int) (w : World) (h : Arg w v xs) (hn : xs.length ≤ 1048576) :
    Calls Try.prog 17 #[.agg #[.int .i64 f, v]] w fun e w' => ∃ u, e = .returned (.agg #[.int .i64 f, u]) ∧ Sl w' w.heap.size u xs ∧ Below w.heap.size w w' := by
  have ha : ∀ o1 o2 o3, Arg (((w.alloc o1).alloc o2).alloc o3) v xs := fun o1 o2 o3 => h.below ((((Below.refl _ _).alloc (by omega) _).alloc (by simp) _).alloc (by simp <;> omega) _)
  have HA := Lib.hid ha
  clear h ha
  go_enter Try.func17, Try.ntmps17
  go_wp2_with fail
  refine (Helpers.toInt64S_any _ xs _ (HA.out _ _ _) hn).mono ?_
  rintro e w1 ⟨u, rfl, hs, hb⟩
  obtain ⟨ua, uc, rfl⟩ := sl_shape hs
  obtain ⟨hc, hf⟩ := bcell hb
  have hz : w.heap.size + 1 + 1 < w1.heap.size := by have := hb.size; simp at this; omega
  have HS := Lib.hid hs
  have HB := Lib.hid hb
  clear hs hb
  go_wp2
  refine bodyPost_ret (v := .agg #[.int .i64 f, .slice ua xs.length uc]) (by simp [results, Try.results17, go_sem, hc]) rfl ⟨_, rfl, ?_, ?_⟩
  · exact sl_mono (by simp <;> omega) (sl_setCell (sl_setCell (sl_setCell HS.out (by simp <;> omega) _) (by simp <;> omega) _) (by simp <;> omega) _)
  · exact ((((((Below.refl _ _).alloc (by omega) _).alloc (by simp) _).alloc (by simp <;> omega) _).trans (HB.out.mono (by simp <;> omega))).setCell (by simp <;> omega) _ |>.setCell (by simp) _).setCell (by simp) _

theorem szSickTable_yes (f : Int) (a : Option Addr) (n c : Nat) (l : Int) (w : World) (hn : n ≤ 9223372036854775807) (h1 : (n : Int) ≤ l) (h2 : l ≤ 1048576) :
    Calls Try.prog 24 #[.agg #[.int .i64 f, .slice a n c], .int .i64 l] w fun e w' => e = .returned (.int .i64 (l - n)) ∧ Below w.heap.size w w' := by
  go_enter Try.func24, Try.ntmps24
  go_wp2_with (first | (go_at_call 57; refine (Helpers.szInt64S_yes _ _ _ _ _ hn h1 h2).mono ?_; rintro e w' ⟨rfl, rfl⟩))
  go_ret
  exact ⟨rfl, (Below.refl _ _).alloc (by omega) _⟩

theorem szSickTable_no (f : Int) (a : Option Addr) (n c : Nat) (l : Int) (w : World) (hn : n ≤ 9223372036854775807) (h0 : 0 ≤ l) (h1 : l < (n : Int)) (h2 : l ≤ 1048576) :
    Calls Try.prog 24 #[.agg #[.int .i64 f, .slice a n c], .int .i64 l] w fun e w' => e = .returned (.int .i64 (-1)) ∧ Below w.heap.size w w' := by
  go_enter Try.func24, Try.ntmps24
  go_wp2_with (first | (go_at_call 57; refine (Helpers.szInt64S_no _ _ _ _ _ hn h0 h1 h2).mono ?_; rintro e w' ⟨rfl, rfl⟩))
  go_ret
  exact ⟨rfl, (Below.refl _ _).alloc (by omega) _⟩

theorem toSickTable_any (f : Int) (v : Value) (xs : List Int) (w : World) (h : Arg w v xs) (hn : xs.length ≤ 1048576) :
    Calls Try.prog 26 #[.agg #[.int .i64 f, v]] w fun e w' => ∃ u, e = .returned (.agg #[.int .i64 f, u]) ∧ Sl w' w.heap.size u xs ∧ Below w.heap.size w w' := by
  have ha : ∀ o1 o2 o3, Arg (((w.alloc o1).alloc o2).alloc o3) v xs := fun o1 o2 o3 => h.below ((((Below.refl _ _).alloc (by omega) _).alloc (by simp) _).alloc (by simp <;> omega) _)
  have HA := Lib.hid ha
  clear h ha
  go_enter Try.func26, Try.ntmps26
  go_wp2_with fail
  refine (Helpers.toInt64S_any _ xs _ (HA.out _ _ _) hn).mono ?_
  rintro e w1 ⟨u, rfl, hs, hb⟩
  obtain ⟨ua, uc, rfl⟩ := sl_shape hs
  obtain ⟨hc, hf⟩ := bcell hb
  have hz : w.heap.size + 1 + 1 < w1.heap.size := by have := hb.size; simp at this; omega
  have HS := Lib.hid hs
  have HB := Lib.hid hb
  clear hs hb
  go_wp2
  refine bodyPost_ret (v := .agg #[.int .i64 f, .slice ua xs.length uc]) (by simp [results, Try.results26, go_sem, hc]) rfl ⟨_, rfl, ?_, ?_⟩
  · exact sl_mono (by simp <;> omega) (sl_setCell (sl_setCell (sl_setCell HS.out (by simp <;> omega) _) (by simp <;> omega) _) (by simp <;> omega) _)
  · exact ((((((Below.refl _ _).alloc (by omega) _).alloc (by simp) _).alloc (by simp <;> omega) _).trans (HB.out.mono (by simp <;> omega))).setCell (by simp <;> omega) _ |>.setCell (by simp) _).setCell (by simp) _

theorem eqLifeTable_yes (f : Int) (v u : Value) (xs : List Int) (w : World) (h : Rd w v xs) (g : Rd w u xs) :
    Calls Try.prog 19 #[.agg #[.int .i64 f, v], .agg #[.int .i64 f, u]] w fun e w' => e = .returned (.bool true) ∧ Below w.heap.size w w' := by
  have hr : ∀ o1 o2, Rd ((w.alloc o1).alloc o2) v xs := fun o1 o2 => h.below (((Below.refl _ _).alloc (by omega) _).alloc (by simp) _)
  have gr : ∀ o1 o2, Rd ((w.alloc o1).alloc o2) u xs := fun o1 o2 => g.below (((Below.refl _ _).alloc (by omega) _).alloc (by simp) _)
  have HR := Lib.hid hr
  have GR := Lib.hid gr
  obtain ⟨a1, c1, rfl, _⟩ := rd_shape h
  obtain ⟨a2, c2, rfl, _⟩ := rd_shape g
  clear h g hr gr
  go_enter Try.func19, Try.ntmps19
  go_wp2_with fail
  refine (Lists.eqInt64S_yes _ _ xs _ (HR.out _ _) (GR.out _ _)).mono ?_
  rintro e w1 ⟨rfl, hb⟩
  go_wp2
  go_ret
  exact ⟨rfl, (((Below.refl _ _).alloc (by omega) _).alloc (by simp) _).trans (hb.mono (by simp <;> omega))⟩

theorem eqSickTable_yes (f : Int) (v u : Value) (xs : List Int) (w : World) (h : Rd w v xs) (g : Rd w u xs) :
    Calls Try.prog 28 #[.agg #[.int .i64 f, v], .agg #[.int .i64 f, u]] w fun e w' => e = .returned (.bool true) ∧ Below w.heap.size w w' := by
  have hr : ∀ o1 o2, Rd ((w.alloc o1).alloc o2) v xs := fun o1 o2 => h.below (((Below.refl _ _).alloc (by omega) _).alloc (by simp) _)
  have gr : ∀ o1 o2, Rd ((w.alloc o1).alloc o2) u xs := fun o1 o2 => g.below (((Below.refl _ _).alloc (by omega) _).alloc (by simp) _)
  have HR := Lib.hid hr
  have GR := Lib.hid gr
  obtain ⟨a1, c1, rfl, _⟩ := rd_shape h
  obtain ⟨a2, c2, rfl, _⟩ := rd_shape g
  clear h g hr gr
  go_enter Try.func28, Try.ntmps28
  go_wp2_with fail
  refine (Lists.eqInt64S_yes _ _ xs _ (HR.out _ _) (GR.out _ _)).mono ?_
  rintro e w1 ⟨rfl, hb⟩
  go_wp2
  go_ret
  exact ⟨rfl, (((Below.refl _ _).alloc (by omega) _).alloc (by simp) _).trans (hb.mono (by simp <;> omega))⟩

end Go.Proofs.Ytochnbljjlloiaa.Tables
