/-
  Proved: the law FnFactors returns true, for every input.
  Conditions: none: the given statement Rows.FnFactorsSaid, as it stands.
-/
import Derived.Test.YtdafgpikgpobbaaRows
import Derived.WalkKit
import Derived.ProofKit
import Derived.OpenShut
import Derived.ShutString
import Derived.ChangeOld
import Derived.Below
import Derived.IntWalk
import Derived.Test.YtdafgpikgpobbaaFactors
import Derived.Test.YtdafgpikgpobbaaDraws3
namespace Go.Proofs.Ytdafgpikgpobbaa.fnFactors
open Go.ChangeShapes Go.WideShapes Go.ChangeAt Go.RowKit
open Go.ChangeMaps (open_string shut_string)
set_option linter.unusedVariables false

theorem own : ownKnob Try.prog.godebug = none := by kernel_rfl
theorem laidOut : laidOutB Try.prog = true := by kernel_rfl

open Mem

set_option maxHeartbeats 1000000 in
set_option maxRecDepth 100000 in
theorem walk (a0 : Option Addr) (len0 cap0 : Nat) (z0 : List Int) (w : World) (w0 : IsRow .u8 w a0 len0 cap0 z0) :
    Calls Try.prog 3 #[.slice a0 len0 cap0] w fun e w' => e = .returned (.bool true) ∧ Below w.heap.size w w' := by
  have hlen : len0 ≤ 9223372036854775807 := by
    rcases w0 with ⟨_, rfl, _⟩ | ⟨_, _, h1, h2, _⟩
    · omega
    · unfold maxLen at h2; omega
  by_cases hbig : 4096 < len0
  · clear w0
    go_enter Try.func3, Try.ntmps3
    go_wp2
    go_ret
    exact ⟨rfl, Below.refl _ _⟩
  go_enter Try.func3, Try.ntmps3
  go_wp2_with (go_at_call 11; go_in)
  refine (Draws.drawCommonFactor _ _ _ _ _ w0 (by omega)).mono ?_; rintro e w1 ⟨a, b, rfl, ha, hb, hB⟩
  unfold Draws.I64 at ha hb
  have HB1 := Lib.hid hB
  obtain ⟨ha1, ha2⟩ := ha
  obtain ⟨hb1, hb2⟩ := hb
  clear w0 hB
  by_cases hc : 0 ≤ a ∧ a ≤ 1000000000000 ∧ 0 ≤ b ∧ b ≤ 1000000000000
  · obtain ⟨c1, c2, c3, c4⟩ := hc
    have A1 := Lib.hid (fun w => Factors.implCommonFactor_yes a b w c1 c2 c3 c4)
    have A2 := Lib.hid (fun w => Factors.specCommonFactor_yes a b w c1 c2 c3 c4)
    have hf0 := Gcd.cf_nonneg a b
    have hf1 := Factors.cf_le a b c1 c3 c2 c4
    have F := Lib.hid (Factors.factor_facts a b c1 c3)
    have Z := Lib.hid (Factors.cf_zero_iff a b c1 c3)
    generalize Gcd.cf a b = f at *
    by_cases hz : f = 0
    · obtain ⟨z1, z2⟩ := Z.out hz
      subst hz z1 z2
      go_wp2_with (first | (go_at_call 13; refine (A1.out _).mono ?_; rintro e w' ⟨rfl, n, rfl⟩) | (go_at_call 14; refine (A2.out _).mono ?_; rintro e w' ⟨rfl, rfl⟩))
      go_ret
      exact ⟨rfl, by first | exact HB1.out | exact below_drewN HB1.out _⟩
    · obtain ⟨f1, f2, f3, f4, f5, f6, f7⟩ := F.out (by omega)
      have hpos : 1 ≤ f := by omega
      have A3 := Lib.hid (fun w => Factors.implCommonFactor_yes (a / f) (b / f) w (by omega) (by omega) (by omega) (by omega))
      rw [f3] at A3
      have F1 := Lib.hid f1
      have F2 := Lib.hid f2
      clear f1 f2 f3 hz
      go_wp2_with (first | (go_at_call 13; refine (A1.out _).mono ?_; rintro e w' ⟨rfl, n, rfl⟩) | (go_at_call 14; refine (A2.out _).mono ?_; rintro e w' ⟨rfl, rfl⟩))
      have hz0 : ¬ f = 0 := by omega
      have hz1 : (f == 0) = false := by simpa using hz0
      have q1 : IntKind.i64.wrap (a.tdiv f) = a / f := by rw [Int.tdiv_eq_ediv_of_nonneg c1]; exact IntWalk.i64_in _ (by omega)
      have q2 : IntKind.i64.wrap (b.tdiv f) = b / f := by rw [Int.tdiv_eq_ediv_of_nonneg c3]; exact IntWalk.i64_in _ (by omega)
      have HB2 := Lib.hid (below_drewN HB1.out n)
      generalize w1.drewN n = w2 at HB2 ⊢
      go_quiet ((go_at_call 13; exact Calls.quiet_of (A3.out _)))
      clear q1 q2 hz0 hz1
      have F3 : (a % f == 0) = true := by rw [F1.out]; rfl
      have F4 : (b % f == 0) = true := by rw [F2.out]; rfl
      go_wp2
      go_ret
      exact ⟨rfl, by first | exact HB2.out | exact below_drewN HB2.out _⟩
  · have hc' : a < 0 ∨ 1000000000000 < a ∨ b < 0 ∨ 1000000000000 < b := by omega
    clear hc
    go_wp2_with (first | (go_at_call 13; refine (Factors.implCommonFactor_no a b _ (by omega)).mono ?_; rintro e w' ⟨rfl, rfl⟩) | (go_at_call 14; refine (Factors.specCommonFactor_no a b _ (by omega)).mono ?_; rintro e w' ⟨rfl, rfl⟩))
    go_ret
    exact ⟨rfl, HB1.out⟩

set_option maxRecDepth 100000 in
theorem lifted (os : Os) (started : os.Started) (H : Type) (enc : TypeId × Value → H) :
    ReturnsInHanded {} Try.checked os 3 .any (Rows.fnFactorsSpec.pre6 enc Try.prog Try.f3 Rows.fnFactorsRow.domain false) (Rows.fnFactorsSpec.post enc Try.prog Try.f3 false true false false) := by
  refine returnsInHanded_of_change (C := Try.checked) own started (by kernel_rfl) Try.func3
    (ChangeSpec.witness6 (enc := enc) (C := Try.checked) false ⟨#[], #[.slice none 0 0], []⟩ 8 (by kernel_rfl) (by kernel_rfl) (by kernel_rfl) (by kernel_rfl)) ?_
  intro W base args ds gs before hval0 hW hcnd _
  have hval : ∀ (j : Nat) t v, Try.f3.params[j]? = some t → args[j]? = some v → Value.okWide Try.prog W .any base t v := hval0
  have hW' := hW
  obtain ⟨p, q, hA0, hV, rfl, hfz, hnd⟩ := hW
  have hA : DataW.TrodAll enc Try.prog W 0 (fun _ => true) true Try.f3.params.toList args.toList ds p := hA0
  rw [Try.params3] at hA hval
  obtain ⟨v0, vs0, d0, ds0, p0, q0, hargs, rfl, rfl, h0, r0⟩ := trodAll_cons hA
  obtain ⟨rfl, rfl, rfl⟩ := trodAll_nil r0
  obtain rfl : args = #[v0] := by cases args; simp_all
  obtain ⟨rfl, rfl⟩ := trodVars_none hV
  obtain ⟨a0, len0, cap0, rfl⟩ := okWide_slice Try.underlying22 (hval 0 22 v0 rfl rfl)
  have k0 := h0
  have lt0 : ∀ x ∈ p0, x.block < W.heap.size := by obtain ⟨m, hm⟩ := k0; exact DataW.trod_lt m _ _ _ hm
  obtain ⟨z0, w0⟩ : ∃ zs, IsRow .u8 W a0 len0 cap0 zs := by
    obtain ⟨fuel, hf⟩ := h0
    rcases open_ints Try.underlying22 Try.underlying5 (by kernel_rfl) hf with ⟨hcs, _⟩ | ⟨x, l, c, zs, hcs, _, hl, hm, hz, _, hcell, hwz⟩
    · simp [Value.cells] at hcs
      obtain ⟨rfl, rfl, rfl⟩ := hcs
      exact ⟨[], .inl ⟨rfl, rfl, rfl, rfl⟩⟩
    · simp [Value.cells] at hcs
      obtain ⟨rfl, rfl, rfl⟩ := hcs
      exact ⟨zs, .inr ⟨_, rfl, hl, hm, by simpa using hz, hcell, hwz⟩⟩
  clear hA0 hval0
  refine (walk a0 len0 cap0 z0 W w0).mono fun e W' ⟨he, bel⟩ => ?_
  subst he
  exact ⟨_, rfl, _, _, _, [], _, [], hW', trodAll_mk1 (shut_bool Try.underlying4 _), (trodAll_cons_mk (Below.trod laidOut (by kernel_rfl) (of_decide_eq_true (by kernel_rfl)) k0 bel lt0) trodAll_mk0), rfl, bel.frame _, fun h => by cases h⟩

theorem over : Rows.fnFactorsRow.holds Try.pinned (OpenSpec.ofChange Rows.fnFactorsSpec) :=
  OpenClaim.holds_of_wide 3 Try.f3 rfl rfl rfl rfl rfl rfl rfl ⟨rfl, rfl, rfl, rfl, rfl⟩ rfl rfl rfl rfl rfl (by kernel_rfl) Try.func3 (by kernel_rfl)
    (of_decide_eq_true (by kernel_rfl)) (by unfold Func.isWrapper; first | (rw [if_pos (by decide +kernel)]; kernel_rfl) | (rw [if_neg (by decide +kernel)]; exact ⟨rfl, rfl⟩))
    (fun os started H enc _ => lifted os started H enc)

theorem proved : Rows.FnFactorsSaid := over
end Go.Proofs.Ytdafgpikgpobbaa.fnFactors
