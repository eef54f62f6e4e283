/-
  Proved: the law FnGrowth returns true, for every input.
  Conditions: none: the given statement Rows.FnGrowthSaid, as it stands.
-/
import Derived.Test.YtdafgpikgpobbaaRows
import Derived.WalkKit
import Derived.ProofKit
import Derived.OpenShut
import Derived.ShutString
import Derived.ChangeOld
import Derived.Below
import Derived.IntWalk
import Derived.Test.YtdafgpikgpobbaaGrowths
import Derived.Test.YtdafgpikgpobbaaDraws3
namespace Go.Proofs.Ytdafgpikgpobbaa.fnGrowth
open Go.ChangeShapes Go.WideShapes Go.ChangeAt Go.RowKit
open Go.ChangeMaps (open_string shut_string)
set_option linter.unusedVariables false

theorem own : ownKnob Try.prog.godebug = none := by kernel_rfl
theorem laidOut : laidOutB Try.prog = true := by kernel_rfl

open Mem

set_option maxHeartbeats 1000000 in
set_option maxRecDepth 100000 in
theorem walk (a0 : Option Addr) (len0 cap0 : Nat) (z0 : List Int) (w : World) (w0 : IsRow .u8 w a0 len0 cap0 z0) :
    Calls Try.prog 7 #[.slice a0 len0 cap0] w fun e w' => e = .returned (.bool true) ∧ Below w.heap.size w w' := by
  have hlen : len0 ≤ 9223372036854775807 := by
    rcases w0 with ⟨_, rfl, _⟩ | ⟨_, _, h1, h2, _⟩
    · omega
    · unfold maxLen at h2; omega
  by_cases hbig : 4096 < len0
  · clear w0
    go_enter Try.func7, Try.ntmps7
    go_wp2
    go_ret
    exact ⟨rfl, Below.refl _ _⟩
  go_enter Try.func7, Try.ntmps7
  go_wp2_with (go_at_call 11; go_in)
  refine (Draws.drawRateBetween _ _ _ _ _ w0 (by omega)).mono ?_; rintro e w1 ⟨a, l, y, rfl, ha, hl, hy, hB⟩
  have HB1 := Lib.hid hB
  have W1 := Lib.hid (Draws.row_below w0 hB)
  clear w0 hB ha hl hy
  have A1 := Lib.hid (fun w => Growths.implRateBetween_any a l y w)
  have A2 := Lib.hid (fun w => Growths.specRateBetween_any a l y w)
  have R := Lib.hid (Growths.rb_before a l y)
  generalize Growths.rbV a l y = rv at *
  generalize Growths.rbC a l y = rc at *
  go_wp2_with (first | (go_at_call 37; refine (A1.out _).mono ?_; rintro e w' ⟨rfl, rfl⟩) | (go_at_call 38; refine (A2.out _).mono ?_; rintro e w' ⟨rfl, rfl⟩))
  refine (Draws.drawGrowAmount _ _ _ _ _ W1.out (by omega)).mono ?_; rintro e w2 ⟨a2, r2, n2, rfl, h1, h2, h3, hB⟩
  have HB2 := Lib.hid (bl HB1.out hB)
  have W2 := Lib.hid (Draws.row_below W1.out hB)
  clear hB h1 h2 h3
  have G1 := Lib.hid (fun w => Growths.implGrowAmount_any a2 r2 n2 w)
  have G2 := Lib.hid (fun w => Growths.specGrowAmount_any a2 r2 n2 w)
  generalize Growths.growV a2 r2 n2 = gv at *
  generalize Growths.growC a2 r2 n2 = gc at *
  go_wp2_with (first | (go_at_call 40; refine (G1.out _).mono ?_; rintro e w' ⟨rfl, rfl⟩) | (go_at_call 41; refine (G2.out _).mono ?_; rintro e w' ⟨rfl, rfl⟩))
  refine (Draws.drawDoublingYears _ _ _ _ _ W2.out (by omega)).mono ?_; rintro e w3 ⟨x, rfl, h1, hB⟩
  have HB3 := Lib.hid (bl HB2.out hB)
  clear hB h1
  have D1 := Lib.hid (fun w => Growths.implDoublingYears_any x w)
  have D2 := Lib.hid (fun w => Growths.specDoublingYears_any x w)
  have D := Lib.hid (Growths.dbl_before x)
  generalize Growths.dblV x = dv at *
  generalize Growths.dblC x = dc at *
  by_cases hd : dc = 0 ∧ 0 < dv
  · obtain ⟨d1, d2⟩ := hd
    subst d1
    obtain ⟨d3, d4, d5⟩ := D.out rfl d2
    have E1 := Lib.hid (fun w => Growths.implGrowAmount_any 1000000 x (dv - 1) w)
    rw [d3] at E1
    clear d3
    generalize Growths.growV 1000000 x (dv - 1) = ev at *
    by_cases hr : rc = 0 ∧ ¬ rv = 0
    · obtain ⟨r3, r4⟩ := hr
      subst r3
      obtain ⟨r5, r6, r7, r8⟩ := R.out rfl r4
      have F1 := Lib.hid (fun w => Growths.implGrowAmount_any a (rv - 1) y w)
      rw [r5] at F1
      clear r5
      generalize Growths.growV a (rv - 1) y = fv at *
      go_wp2_with (first | (go_at_call 43; refine (D1.out _).mono ?_; rintro e w' ⟨rfl, rfl⟩) | (go_at_call 44; refine (D2.out _).mono ?_; rintro e w' ⟨rfl, rfl⟩) | (go_at_call 40; (first | ((with_reducible refine (E1.out _).mono ?_); rintro e w' ⟨rfl, rfl⟩; clear E1) | ((with_reducible refine (F1.out _).mono ?_); rintro e w' ⟨rfl, rfl⟩))))
      go_ret
      exact ⟨by first | rfl | exact Base.ret_bool (decide_eq_true (by omega)), HB3.out⟩
    · have hr' : ¬ rc = 0 ∨ rv = 0 := by omega
      clear hr
      go_wp2_with (first | (go_at_call 43; refine (D1.out _).mono ?_; rintro e w' ⟨rfl, rfl⟩) | (go_at_call 44; refine (D2.out _).mono ?_; rintro e w' ⟨rfl, rfl⟩) | (go_at_call 40; refine (E1.out _).mono ?_; rintro e w' ⟨rfl, rfl⟩))
      all_goals
        go_ret
        exact ⟨rfl, HB3.out⟩
  · have hd' : ¬ dc = 0 ∨ (dc = 0 ∧ dv ≤ 0) := by omega
    clear hd
    by_cases hr : rc = 0 ∧ ¬ rv = 0
    · obtain ⟨r3, r4⟩ := hr
      subst r3
      obtain ⟨r5, r6, r7, r8⟩ := R.out rfl r4
      have F1 := Lib.hid (fun w => Growths.implGrowAmount_any a (rv - 1) y w)
      rw [r5] at F1
      clear r5
      generalize Growths.growV a (rv - 1) y = fv at *
      rcases hd' with hd' | ⟨hd1, hd2⟩
      all_goals
        go_wp2_with (first | (go_at_call 43; refine (D1.out _).mono ?_; rintro e w' ⟨rfl, rfl⟩) | (go_at_call 44; refine (D2.out _).mono ?_; rintro e w' ⟨rfl, rfl⟩) | (go_at_call 40; refine (F1.out _).mono ?_; rintro e w' ⟨rfl, rfl⟩))
        go_ret
        exact ⟨by first | rfl | exact Base.ret_bool (decide_eq_true (by omega)), HB3.out⟩
    · have hr' : ¬ rc = 0 ∨ rv = 0 := by omega
      clear hr
      rcases hd' with hd' | ⟨hd1, hd2⟩
      all_goals
        go_wp2_with (first | (go_at_call 43; refine (D1.out _).mono ?_; rintro e w' ⟨rfl, rfl⟩) | (go_at_call 44; refine (D2.out _).mono ?_; rintro e w' ⟨rfl, rfl⟩))
        all_goals
          go_ret
          exact ⟨rfl, HB3.out⟩

set_option maxRecDepth 100000 in
theorem lifted (os : Os) (started : os.Started) (H : Type) (enc : TypeId × Value → H) :
    ReturnsInHanded {} Try.checked os 7 .any (Rows.fnGrowthSpec.pre6 enc Try.prog Try.f7 Rows.fnGrowthRow.domain false) (Rows.fnGrowthSpec.post enc Try.prog Try.f7 false true false false) := by
  refine returnsInHanded_of_change (C := Try.checked) own started (by kernel_rfl) Try.func7
    (ChangeSpec.witness6 (enc := enc) (C := Try.checked) false ⟨#[], #[.slice none 0 0], []⟩ 8 (by kernel_rfl) (by kernel_rfl) (by kernel_rfl) (by kernel_rfl)) ?_
  intro W base args ds gs before hval0 hW hcnd _
  have hval : ∀ (j : Nat) t v, Try.f7.params[j]? = some t → args[j]? = some v → Value.okWide Try.prog W .any base t v := hval0
  have hW' := hW
  obtain ⟨p, q, hA0, hV, rfl, hfz, hnd⟩ := hW
  have hA : DataW.TrodAll enc Try.prog W 0 (fun _ => true) true Try.f7.params.toList args.toList ds p := hA0
  rw [Try.params7] at hA hval
  obtain ⟨v0, vs0, d0, ds0, p0, q0, hargs, rfl, rfl, h0, r0⟩ := trodAll_cons hA
  obtain ⟨rfl, rfl, rfl⟩ := trodAll_nil r0
  obtain rfl : args = #[v0] := by cases args; simp_all
  obtain ⟨rfl, rfl⟩ := trodVars_none hV
  obtain ⟨a0, len0, cap0, rfl⟩ := okWide_slice Try.underlying22 (hval 0 22 v0 rfl rfl)
  have k0 := h0
  have lt0 : ∀ x ∈ p0, x.block < W.heap.size := by obtain ⟨m, hm⟩ := k0; exact DataW.trod_lt m _ _ _ hm
  obtain ⟨z0, w0⟩ : ∃ zs, IsRow .u8 W a0 len0 cap0 zs := by
    obtain ⟨fuel, hf⟩ := h0
    rcases open_ints Try.underlying22 Try.underlying5 (by kernel_rfl) hf with ⟨hcs, _⟩ | ⟨x, l, c, zs, hcs, _, hl, hm, hz, _, hcell, hwz⟩
    · simp [Value.cells] at hcs
      obtain ⟨rfl, rfl, rfl⟩ := hcs
      exact ⟨[], .inl ⟨rfl, rfl, rfl, rfl⟩⟩
    · simp [Value.cells] at hcs
      obtain ⟨rfl, rfl, rfl⟩ := hcs
      exact ⟨zs, .inr ⟨_, rfl, hl, hm, by simpa using hz, hcell, hwz⟩⟩
  clear hA0 hval0
  refine (walk a0 len0 cap0 z0 W w0).mono fun e W' ⟨he, bel⟩ => ?_
  subst he
  exact ⟨_, rfl, _, _, _, [], _, [], hW', trodAll_mk1 (shut_bool Try.underlying4 _), (trodAll_cons_mk (Below.trod laidOut (by kernel_rfl) (of_decide_eq_true (by kernel_rfl)) k0 bel lt0) trodAll_mk0), rfl, bel.frame _, fun h => by cases h⟩

theorem over : Rows.fnGrowthRow.holds Try.pinned (OpenSpec.ofChange Rows.fnGrowthSpec) :=
  OpenClaim.holds_of_wide 7 Try.f7 rfl rfl rfl rfl rfl rfl rfl ⟨rfl, rfl, rfl, rfl, rfl⟩ rfl rfl rfl rfl rfl (by kernel_rfl) Try.func7 (by kernel_rfl)
    (of_decide_eq_true (by kernel_rfl)) (by unfold Func.isWrapper; first | (rw [if_pos (by decide +kernel)]; kernel_rfl) | (rw [if_neg (by decide +kernel)]; exact ⟨rfl, rfl⟩))
    (fun os started H enc _ => lifted os started H enc)

theorem proved : Rows.FnGrowthSaid := over
end Go.Proofs.Ytdafgpikgpobbaa.fnGrowth
