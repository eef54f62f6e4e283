/-
  Proved: the law FnExactSickWeeks returns true, for every input.
  Conditions: none: the given statement Rows.FnExactSickWeeksSaid, as it stands.
-/
import Derived.Test.YtochnbljjlloiaaStructs
import Derived.Test.YtochnbljjlloiaaRows
import Derived.WalkKit
import Derived.ProofKit
import Derived.OpenShut
import Derived.ShutString
import Derived.ChangeOld
import Derived.Below
import Derived.IntWalk
import Derived.Test.YtochnbljjlloiaaTables
import Derived.Test.YtochnbljjlloiaaSickSums
import Derived.Deep.RegionHeld3
namespace Go.Proofs.Ytochnbljjlloiaa.fnExactSickWeeks
open Go.ChangeShapes Go.WideShapes Go.ChangeAt Go.RowKit
open Go.ChangeMaps (open_string shut_string)
set_option linter.unusedVariables false

theorem own : ownKnob Try.prog.godebug = none := by kernel_rfl
theorem laidOut : laidOutB Try.prog = true := by kernel_rfl

open Mem

set_option maxHeartbeats 1000000 in
theorem walk (f0_0 : Int) (a0_1 : Option Addr) (len0_1 cap0_1 : Nat) (z0_1 : List Int) (a1 : Option Addr) (len1 cap1 : Nat) (z1 : List Int) (w : World) (wf0_0 : (Lit.int .i64 f0_0).wf = true) (w0_1 : IsRow .i64 w a0_1 len0_1 cap0_1 z0_1) (w1 : IsRow .i64 w a1 len1 cap1 z1) :
    Calls Try.prog 11 #[.agg #[.int .i64 f0_0, .slice a0_1 len0_1 cap0_1], .slice a1 len1 cap1] w fun e w' => e = .returned (.bool true) ∧ Below w.heap.size w w' := by
  obtain ⟨hlen, hxl⟩ := row_len w0_1
  obtain ⟨hlen1, hxl1⟩ := row_len w1
  by_cases hb1 : 1048576 < len1
  · clear w0_1 w1 wf0_0
    go_enter Try.func11, Try.ntmps11
    go_wp2
    go_ret
    exact ⟨rfl, b0 _ _⟩
  by_cases hbig : 1048576 < len0_1
  · clear w0_1 w1 wf0_0
    go_enter Try.func11, Try.ntmps11
    go_wp2_with fail
    refine (Tables.szSickTable_no _ _ _ _ _ _ hlen (by omega) (by omega) (by omega)).mono ?_; rintro e w1 ⟨rfl, hb1⟩
    go_wp2
    go_ret
    exact ⟨rfl, bl (b0 _ _) hb1⟩
  have ha := Lib.hid (arg_of_row w0_1 (by omega))
  have hb := Lib.hid (arg_of_row w1 (by omega))
  have hxn : (z0_1.take len0_1).length ≤ 1048576 := by omega
  have hyn : (z1.take len1).length ≤ 1048576 := by omega
  have HB0 := Lib.hid (b0 w)
  have HX0 := Lib.hid (box2_new w (.int .i64 f0_0) (.slice a0_1 len0_1 cap0_1))
  clear w0_1 w1 wf0_0 hxl hxl1
  generalize z0_1.take len0_1 = xs at *
  generalize z1.take len1 = ys at *
  go_enter Try.func11, Try.ntmps11
  go_wp2_with fail
  refine (Tables.szSickTable_yes _ _ _ _ _ _ hlen (by omega) (by omega)).mono ?_; rintro e w1 ⟨rfl, hb1⟩
  have HC1 := Lib.hid (bl (HB0.out _) hb1)
  obtain ⟨x1a, x1b, x1c⟩ := (HX0.out _).below hb1
  go_wp2_with fail
  refine (Tables.toSickTable_any _ _ xs _ (ha.out.below HC1.out) (by omega)).mono ?_; rintro e w2 ⟨u2, rfl, hs2, hb2⟩
  have HX2 := Lib.hid (Box2.below ⟨x1a, x1b, x1c⟩ hb2)
  have HC2 := Lib.hid (bl HC1.out hb2)
  have hr2 := Lib.hid hs2.rd
  clear hs2 hb2 x1a x1b x1c hb1
  go_wp2_with fail
  refine (Helpers.toInt64S_any _ ys _ (hb.out.below HC2.out) (by omega)).mono ?_; rintro e w3 ⟨u3, rfl, hs3, hb3⟩
  have HX3 := Lib.hid (HX2.out.below hb3)
  have HC3 := Lib.hid (bl HC2.out hb3)
  have hr3 := Lib.hid (hr2.out.below hb3)
  have hg3 := Lib.hid hs3.rd
  clear hs3 hb3 hr2
  go_wp2_with fail
  refine (SickSums.specSickWeeks_any _ _ _ xs ys _ hr3.out hg3.out).mono ?_; rintro e w4 ⟨rfl, hb4⟩
  have HX4 := Lib.hid (HX3.out.below hb4)
  obtain ⟨x4a, x4b, x4c⟩ := HX4.out
  have HC4 := Lib.hid (bl HC3.out hb4)
  clear hb4
  go_wp2_with fail
  refine (Tables.toSickTable_any _ _ xs _ (ha.out.below HC4.out) (by omega)).mono ?_; rintro e w5 ⟨u5, rfl, hs5, hb5⟩
  obtain ⟨ua, uc, rfl⟩ := sl_shape hs5
  have HX5 := Lib.hid (HX4.out.below hb5)
  have HC5 := Lib.hid (bl HC4.out hb5)
  have hr5 := Lib.hid (fun o => hs5.rd.below (b0 w5 o))
  have HY5 := Lib.hid (box2_new w5 (.int .i64 f0_0) (.slice ua xs.length uc))
  have HXw := Lib.hid (fun o => HX5.out.below (b0 w5 o))
  clear hs5 hb5 x4a x4b x4c
  go_wp2_with fail
  refine (Helpers.toInt64S_any _ ys _ (hb.out.below (bl HC5.out (b0 _ _))) (by omega)).mono ?_; rintro e w6 ⟨u6, rfl, hs6, hb6⟩
  obtain ⟨va, vc, rfl⟩ := sl_shape hs6
  have HX6 := Lib.hid ((HXw.out _).below hb6)
  have HY6 := Lib.hid ((HY5.out _).below hb6)
  have HC6 := Lib.hid (bl (bl HC5.out (b0 _ _)) hb6)
  have hr6 := Lib.hid ((hr5.out _).below hb6)
  have hg6 := Lib.hid hs6.rd
  clear hs6 hb6 hr5
  obtain ⟨y6a, y6b, y6c⟩ := HY6.out
  go_wp2_with fail
  refine (SickSums.implSickWeeks_any _ _ _ xs ys _ hr6.out hg6.out).mono ?_; rintro e w7 ⟨rfl, hb7⟩
  have HX7 := Lib.hid (HX6.out.below hb7)
  have HY7 := Lib.hid (HY6.out.below hb7)
  have HC7 := Lib.hid (bl HC6.out hb7)
  have hr7 := Lib.hid (hr6.out.below hb7)
  have hg7 := Lib.hid (hg6.out.below hb7)
  clear hb7 y6a y6b y6c
  obtain ⟨x7a, x7b, x7c⟩ := HX7.out
  obtain ⟨y7a, y7b, y7c⟩ := HY7.out
  go_wp2_with fail
  go_region_held3 (fun w' => w'.cell? ⟨w.heap.size, 0, none⟩ = some (.int .i64 f0_0) ∧ w'.cell? ⟨w.heap.size, 1, none⟩ = some (.slice a0_1 len0_1 cap0_1) ∧ w'.cell? ⟨w5.heap.size, 0, none⟩ = some (.int .i64 f0_0) ∧ w'.cell? ⟨w5.heap.size, 1, none⟩ = some (.slice ua xs.length uc)) (go_keep)
    (first | (go_at_call 26; refine (Tables.toSickTable_any _ _ xs _ (ha.out.below HC7.out.drew) (by omega)).mono ?_; rintro e w8 ⟨u8, rfl, hs8, hb8d⟩; have hb8 := undrew hb8d; have hr8 := Lib.hid (hr7.out.below hb8); have hq8 := Lib.hid hs8.rd; have hg8 := Lib.hid (hg7.out.below hb8); have HC8 := Lib.hid (bl HC7.out hb8); obtain ⟨y8a, y8b, y8c⟩ := HY7.out.below hb8; obtain ⟨x8a, x8b, x8c⟩ := HX7.out.below hb8) | (go_at_call 28; refine (Tables.eqSickTable_yes _ _ _ xs _ hr8.out hq8.out).mono ?_; rintro e w9 ⟨rfl, hb9⟩; have hg9 := Lib.hid (hg8.out.below hb9); have HC9 := Lib.hid (bl HC8.out hb9); obtain ⟨y9a, y9b, y9c⟩ := Box2.below ⟨y8a, y8b, y8c⟩ hb9; obtain ⟨x9a, x9b, x9c⟩ := Box2.below ⟨x8a, x8b, x8c⟩ hb9))
  go_wp2_with fail
  refine (Helpers.toInt64S_any _ ys _ (hb.out.below HC9.out) (by omega)).mono ?_; rintro e w10 ⟨u10, rfl, hs10, hb10⟩
  have hg10 := Lib.hid (hg9.out.below hb10)
  have HC10 := Lib.hid (bl HC9.out hb10)
  go_wp2_with fail
  refine (Lists.eqInt64S_yes _ _ ys _ hg10.out hs10.rd).mono ?_; rintro e w11 ⟨rfl, hb11⟩
  go_wp2
  go_ret
  exact ⟨rfl, bl HC10.out hb11⟩

set_option maxRecDepth 100000 in
theorem lifted (os : Os) (started : os.Started) (H : Type) (enc : TypeId × Value → H) :
    ReturnsInHanded {} Try.checked os 11 .any (Rows.fnExactSickWeeksSpec.pre6 enc Try.prog Try.f11 Rows.fnExactSickWeeksRow.domain false) (Rows.fnExactSickWeeksSpec.post enc Try.prog Try.f11 false true false false) := by
  refine returnsInHanded_of_change (C := Try.checked) own started (by kernel_rfl) Try.func11
    (ChangeSpec.witness6 (enc := enc) (C := Try.checked) false ⟨#[], #[.agg #[.int .i64 0, .slice none 0 0], .slice none 0 0], []⟩ 8 (by kernel_rfl) (by kernel_rfl) (by kernel_rfl) (by kernel_rfl)) ?_
  intro W base args ds gs before hval0 hW hcnd _
  have hval : ∀ (j : Nat) t v, Try.f11.params[j]? = some t → args[j]? = some v → Value.okWide Try.prog W .any base t v := hval0
  have hW' := hW
  obtain ⟨p, q, hA0, hV, rfl, hfz, hnd⟩ := hW
  have hA : DataW.TrodAll enc Try.prog W 0 (fun _ => true) true Try.f11.params.toList args.toList ds p := hA0
  rw [Try.params11] at hA hval
  obtain ⟨v0, vs0, d0, ds0, p0, q0, hargs, rfl, rfl, h0, r0⟩ := trodAll_cons hA
  obtain ⟨v1, vs1, d1, ds1, p1, q1, rfl, rfl, rfl, h1, r1⟩ := trodAll_cons r0
  obtain ⟨rfl, rfl, rfl⟩ := trodAll_nil r1
  obtain rfl : args = #[v0, v1] := by cases args; simp_all
  obtain ⟨rfl, rfl⟩ := trodVars_none hV
  have k0 := h0
  have lt0 : ∀ x ∈ p0, x.block < W.heap.size := by obtain ⟨m, hm⟩ := k0; exact DataW.trod_lt m _ _ _ hm
  obtain ⟨c0_0, c0_1, y0_0, y0_1, m0, hag0, _, _, hy0_0, hy0_1⟩ := Go.Joins.open_agg2 Try.underlying37 (by kernel_rfl) (by kernel_rfl) (hval 0 37 v0 rfl rfl) h0
  obtain ⟨f0_0, e0_0, _, wf0_0⟩ := DataW.trod_int Try.underlying2 hy0_0
  simp at e0_0
  subst e0_0
  obtain ⟨a0_1, len0_1, cap0_1, z0_1, e0_1, w0_1⟩ : ∃ a l c zs, c0_1 = .slice a l c ∧ IsRow .i64 W a l c zs := by
    rcases open_ints Try.underlying22 Try.underlying2 (by kernel_rfl) hy0_1 with ⟨hcs, _⟩ | ⟨x, l, c, zs, hcs, _, hl, hm, hz, _, hcell, hwz⟩
    · simp at hcs
      exact ⟨none, 0, 0, [], hcs, .inl ⟨rfl, rfl, rfl, rfl⟩⟩
    · simp at hcs
      exact ⟨some x, l, c, zs, hcs, .inr ⟨_, rfl, hl, hm, by simpa using hz, hcell, hwz⟩⟩
  subst e0_1
  subst hag0
  obtain ⟨a1, len1, cap1, rfl⟩ := okWide_slice Try.underlying22 (hval 1 22 v1 rfl rfl)
  have k1 := h1
  have lt1 : ∀ x ∈ p1, x.block < W.heap.size := by obtain ⟨m, hm⟩ := k1; exact DataW.trod_lt m _ _ _ hm
  obtain ⟨z1, w1⟩ : ∃ zs, IsRow .i64 W a1 len1 cap1 zs := by
    obtain ⟨fuel, hf⟩ := h1
    rcases open_ints Try.underlying22 Try.underlying2 (by kernel_rfl) hf with ⟨hcs, _⟩ | ⟨x, l, c, zs, hcs, _, hl, hm, hz, _, hcell, hwz⟩
    · simp [Value.cells] at hcs
      obtain ⟨rfl, rfl, rfl⟩ := hcs
      exact ⟨[], .inl ⟨rfl, rfl, rfl, rfl⟩⟩
    · simp [Value.cells] at hcs
      obtain ⟨rfl, rfl, rfl⟩ := hcs
      exact ⟨zs, .inr ⟨_, rfl, hl, hm, by simpa using hz, hcell, hwz⟩⟩
  clear hA0 hval0
  refine (walk f0_0 a0_1 len0_1 cap0_1 z0_1 a1 len1 cap1 z1 W wf0_0 w0_1 w1).mono fun e W' ⟨he, bel⟩ => ?_
  subst he
  exact ⟨_, rfl, _, _, _, [], _, [], hW', trodAll_mk1 (shut_bool Try.underlying4 _), (trodAll_cons_mk (Below.trod laidOut (by kernel_rfl) (of_decide_eq_true (by kernel_rfl)) k0 bel lt0) (trodAll_cons_mk (Below.trod laidOut (by kernel_rfl) (of_decide_eq_true (by kernel_rfl)) k1 bel lt1) trodAll_mk0)), rfl, bel.frame _, fun h => by cases h⟩

theorem over : Rows.fnExactSickWeeksRow.holds Try.pinned (OpenSpec.ofChange Rows.fnExactSickWeeksSpec) :=
  OpenClaim.holds_of_wide 11 Try.f11 rfl rfl rfl rfl rfl rfl rfl ⟨rfl, rfl, rfl, rfl, rfl⟩ rfl rfl rfl rfl rfl (by kernel_rfl) Try.func11 (by kernel_rfl)
    (of_decide_eq_true (by kernel_rfl)) (by unfold Func.isWrapper; first | (rw [if_pos (by decide +kernel)]; kernel_rfl) | (rw [if_neg (by decide +kernel)]; exact ⟨rfl, rfl⟩))
    (fun os started H enc _ => lifted os started H enc)

theorem proved : Rows.FnExactSickWeeksSaid := over
end Go.Proofs.Ytochnbljjlloiaa.fnExactSickWeeks
