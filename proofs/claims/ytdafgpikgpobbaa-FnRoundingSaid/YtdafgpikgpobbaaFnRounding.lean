/-
  Proved: the law FnRounding returns true, for every input.
  Conditions: none: the given statement Rows.FnRoundingSaid, as it stands.
-/
import Derived.Test.YtdafgpikgpobbaaRows
import Derived.WalkKit
import Derived.ProofKit
import Derived.OpenShut
import Derived.ShutString
import Derived.ChangeOld
import Derived.Below
import Derived.IntWalk
import Derived.Test.YtdafgpikgpobbaaDivs
import Derived.Test.YtdafgpikgpobbaaDraws3
namespace Go.Proofs.Ytdafgpikgpobbaa.fnRounding
open Go.ChangeShapes Go.WideShapes Go.ChangeAt Go.RowKit
open Go.ChangeMaps (open_string shut_string)
set_option linter.unusedVariables false

theorem own : ownKnob Try.prog.godebug = none := by kernel_rfl
theorem laidOut : laidOutB Try.prog = true := by kernel_rfl

open Mem

set_option maxHeartbeats 1000000 in
set_option maxRecDepth 100000 in
theorem walk (a0 : Option Addr) (len0 cap0 : Nat) (z0 : List Int) (w : World) (w0 : IsRow .u8 w a0 len0 cap0 z0) :
    Calls Try.prog 4 #[.slice a0 len0 cap0] w fun e w' => e = .returned (.bool true) ∧ Below w.heap.size w w' := by
  have hlen : len0 ≤ 9223372036854775807 := by
    rcases w0 with ⟨_, rfl, _⟩ | ⟨_, _, h1, h2, _⟩
    · omega
    · unfold maxLen at h2; omega
  by_cases hbig : 4096 < len0
  · clear w0
    go_enter Try.func4, Try.ntmps4
    go_wp2
    go_ret
    exact ⟨rfl, Below.refl _ _⟩
  go_enter Try.func4, Try.ntmps4
  go_wp2_with (go_at_call 11; go_in)
  refine (Draws.drawDivideDown _ _ _ _ _ w0 (by omega)).mono ?_; rintro e w1 ⟨a, b, rfl, ha, hb, hB⟩
  unfold Draws.I64 at ha hb
  have HB1 := Lib.hid hB
  obtain ⟨ha1, ha2⟩ := ha
  obtain ⟨hb1, hb2⟩ := hb
  have W0 := Lib.hid (Draws.row_below w0 hB)
  clear w0 hB
  by_cases hc : -1000000000000 ≤ a ∧ a ≤ 1000000000000 ∧ 1 ≤ b ∧ b ≤ 1000000000
  · obtain ⟨c1, c2, c3, c4⟩ := hc
    obtain ⟨f1, f2, f3, f4, f5, f6, f7⟩ := Divs.round_facts a b c1 c2 c3 c4
    obtain ⟨x1, x2⟩ := Divs.div_small a b c1 c2 c3
    have A1 := Lib.hid (fun w => Divs.implDivideDown_yes a b w c1 c2 c3 c4)
    have A2 := Lib.hid (fun w => Divs.specDivideDown_yes a b w c1 c2 c3 c4)
    have A3 := Lib.hid (fun w => Divs.implDivideUp_yes a b w c1 c2 c3 c4)
    have A4 := Lib.hid (fun w => Divs.specDivideUp_yes a b w c1 c2 c3 c4)
    generalize a / b = x at *
    generalize Plain.upq a b = y at *
    rcases f7 with ⟨f7, f8⟩ | ⟨f7, f8⟩
    all_goals
      go_wp2_with (first | (go_at_call 16; refine (A1.out _).mono ?_; rintro e w' ⟨rfl, rfl⟩) | (go_at_call 17; refine (A2.out _).mono ?_; rintro e w' ⟨rfl, rfl⟩) | (go_at_call 18; refine (A3.out _).mono ?_; rintro e w' ⟨rfl, rfl⟩) | (go_at_call 19; refine (A4.out _).mono ?_; rintro e w' ⟨rfl, rfl⟩))
      refine (Draws.drawPerMille _ _ _ _ _ W0.out (by omega)).mono ?_; rintro e w2 ⟨n, r, rfl, hn, hr, hB2⟩
      unfold Draws.I64 at hn hr
      have HB2 := Lib.hid (bl HB1.out hB2)
      obtain ⟨hn1, hn2⟩ := hn
      obtain ⟨hr1, hr2⟩ := hr
      clear hB2
      by_cases hd : -1000000000000 ≤ n ∧ n ≤ 1000000000000 ∧ 0 ≤ r ∧ r ≤ 1000
      · obtain ⟨d1, d2, d3, d4⟩ := hd
        obtain ⟨g1, g2⟩ := Divs.mul_small n r d1 d2 d3 d4
        have B1 := Lib.hid (fun w => Divs.implPerMille_yes n r w d1 d2 d3 d4)
        have B2 := Lib.hid (fun w => Divs.specPerMille_yes n r w d1 d2 d3 d4)
        have g3 : n * r / 1000 * 1000 ≤ n * r ∧ n * r < n * r / 1000 * 1000 + 1000 := by omega
        obtain ⟨g3, g4⟩ := g3
        generalize n * r / 1000 = q at *
        go_wp2_with (first | (go_at_call 21; refine (B1.out _).mono ?_; rintro e w' ⟨rfl, rfl⟩) | (go_at_call 22; refine (B2.out _).mono ?_; rintro e w' ⟨rfl, rfl⟩))
        go_ret
        exact ⟨rfl, HB2.out⟩
      · have hd' : n < -1000000000000 ∨ 1000000000000 < n ∨ r < 0 ∨ 1000 < r := by omega
        clear hd
        go_wp2_with (first
      | (go_at_call 17; refine (Divs.specDivideDown_yes _ _ _ (by omega) (by omega) (by omega) (by omega)).mono ?_; rintro e w' ⟨rfl, rfl⟩)
      | (go_at_call 17; refine (Divs.specDivideDown_no _ _ _ (by omega)).mono ?_; rintro e w' ⟨rfl, rfl⟩)
      | (go_at_call 19; refine (Divs.specDivideUp_yes _ _ _ (by omega) (by omega) (by omega) (by omega)).mono ?_; rintro e w' ⟨rfl, rfl⟩)
      | (go_at_call 19; refine (Divs.specDivideUp_no _ _ _ (by omega)).mono ?_; rintro e w' ⟨rfl, rfl⟩)
      | (go_at_call 22; refine (Divs.specPerMille_yes _ _ _ (by omega) (by omega) (by omega) (by omega)).mono ?_; rintro e w' ⟨rfl, rfl⟩)
      | (go_at_call 22; refine (Divs.specPerMille_no _ _ _ (by omega)).mono ?_; rintro e w' ⟨rfl, rfl⟩)
      | (go_at_call 16; refine (Divs.implDivideDown_yes _ _ _ (by omega) (by omega) (by omega) (by omega)).mono ?_; rintro e w' ⟨rfl, rfl⟩)
      | (go_at_call 16; refine (Divs.implDivideDown_no _ _ _ (by omega)).mono ?_; rintro e w' ⟨rfl, rfl⟩)
      | (go_at_call 18; refine (Divs.implDivideUp_yes _ _ _ (by omega) (by omega) (by omega) (by omega)).mono ?_; rintro e w' ⟨rfl, rfl⟩)
      | (go_at_call 18; refine (Divs.implDivideUp_no _ _ _ (by omega)).mono ?_; rintro e w' ⟨rfl, rfl⟩)
      | (go_at_call 21; refine (Divs.implPerMille_yes _ _ _ (by omega) (by omega) (by omega) (by omega)).mono ?_; rintro e w' ⟨rfl, rfl⟩)
      | (go_at_call 21; refine (Divs.implPerMille_no _ _ _ (by omega)).mono ?_; rintro e w' ⟨rfl, rfl⟩)
     )
        go_ret
        exact ⟨rfl, HB2.out⟩
  · have hc' : a < -1000000000000 ∨ 1000000000000 < a ∨ b < 1 ∨ 1000000000 < b := by omega
    clear hc
    go_wp2_with (first
      | (go_at_call 17; refine (Divs.specDivideDown_yes _ _ _ (by omega) (by omega) (by omega) (by omega)).mono ?_; rintro e w' ⟨rfl, rfl⟩)
      | (go_at_call 17; refine (Divs.specDivideDown_no _ _ _ (by omega)).mono ?_; rintro e w' ⟨rfl, rfl⟩)
      | (go_at_call 19; refine (Divs.specDivideUp_yes _ _ _ (by omega) (by omega) (by omega) (by omega)).mono ?_; rintro e w' ⟨rfl, rfl⟩)
      | (go_at_call 19; refine (Divs.specDivideUp_no _ _ _ (by omega)).mono ?_; rintro e w' ⟨rfl, rfl⟩)
      | (go_at_call 22; refine (Divs.specPerMille_yes _ _ _ (by omega) (by omega) (by omega) (by omega)).mono ?_; rintro e w' ⟨rfl, rfl⟩)
      | (go_at_call 22; refine (Divs.specPerMille_no _ _ _ (by omega)).mono ?_; rintro e w' ⟨rfl, rfl⟩)
      | (go_at_call 16; refine (Divs.implDivideDown_yes _ _ _ (by omega) (by omega) (by omega) (by omega)).mono ?_; rintro e w' ⟨rfl, rfl⟩)
      | (go_at_call 16; refine (Divs.implDivideDown_no _ _ _ (by omega)).mono ?_; rintro e w' ⟨rfl, rfl⟩)
      | (go_at_call 18; refine (Divs.implDivideUp_yes _ _ _ (by omega) (by omega) (by omega) (by omega)).mono ?_; rintro e w' ⟨rfl, rfl⟩)
      | (go_at_call 18; refine (Divs.implDivideUp_no _ _ _ (by omega)).mono ?_; rintro e w' ⟨rfl, rfl⟩)
      | (go_at_call 21; refine (Divs.implPerMille_yes _ _ _ (by omega) (by omega) (by omega) (by omega)).mono ?_; rintro e w' ⟨rfl, rfl⟩)
      | (go_at_call 21; refine (Divs.implPerMille_no _ _ _ (by omega)).mono ?_; rintro e w' ⟨rfl, rfl⟩)
     )
    refine (Draws.drawPerMille _ _ _ _ _ W0.out (by omega)).mono ?_; rintro e w2 ⟨n, r, rfl, hn, hr, hB2⟩
    unfold Draws.I64 at hn hr
    have HB2 := Lib.hid (bl HB1.out hB2)
    obtain ⟨hn1, hn2⟩ := hn
    obtain ⟨hr1, hr2⟩ := hr
    clear hB2
    by_cases hd : -1000000000000 ≤ n ∧ n ≤ 1000000000000 ∧ 0 ≤ r ∧ r ≤ 1000
    · obtain ⟨d1, d2, d3, d4⟩ := hd
      obtain ⟨g1, g2⟩ := Divs.mul_small n r d1 d2 d3 d4
      have B1 := Lib.hid (fun w => Divs.implPerMille_yes n r w d1 d2 d3 d4)
      have B2 := Lib.hid (fun w => Divs.specPerMille_yes n r w d1 d2 d3 d4)
      have g3 : n * r / 1000 * 1000 ≤ n * r ∧ n * r < n * r / 1000 * 1000 + 1000 := by omega
      obtain ⟨g3, g4⟩ := g3
      generalize n * r / 1000 = q at *
      go_wp2_with (first | (go_at_call 21; refine (B1.out _).mono ?_; rintro e w' ⟨rfl, rfl⟩) | (go_at_call 22; refine (B2.out _).mono ?_; rintro e w' ⟨rfl, rfl⟩))
      go_ret
      exact ⟨rfl, HB2.out⟩
    · have hd' : n < -1000000000000 ∨ 1000000000000 < n ∨ r < 0 ∨ 1000 < r := by omega
      clear hd
      go_wp2_with (first
      | (go_at_call 17; refine (Divs.specDivideDown_yes _ _ _ (by omega) (by omega) (by omega) (by omega)).mono ?_; rintro e w' ⟨rfl, rfl⟩)
      | (go_at_call 17; refine (Divs.specDivideDown_no _ _ _ (by omega)).mono ?_; rintro e w' ⟨rfl, rfl⟩)
      | (go_at_call 19; refine (Divs.specDivideUp_yes _ _ _ (by omega) (by omega) (by omega) (by omega)).mono ?_; rintro e w' ⟨rfl, rfl⟩)
      | (go_at_call 19; refine (Divs.specDivideUp_no _ _ _ (by omega)).mono ?_; rintro e w' ⟨rfl, rfl⟩)
      | (go_at_call 22; refine (Divs.specPerMille_yes _ _ _ (by omega) (by omega) (by omega) (by omega)).mono ?_; rintro e w' ⟨rfl, rfl⟩)
      | (go_at_call 22; refine (Divs.specPerMille_no _ _ _ (by omega)).mono ?_; rintro e w' ⟨rfl, rfl⟩)
      | (go_at_call 16; refine (Divs.implDivideDown_yes _ _ _ (by omega) (by omega) (by omega) (by omega)).mono ?_; rintro e w' ⟨rfl, rfl⟩)
      | (go_at_call 16; refine (Divs.implDivideDown_no _ _ _ (by omega)).mono ?_; rintro e w' ⟨rfl, rfl⟩)
      | (go_at_call 18; refine (Divs.implDivideUp_yes _ _ _ (by omega) (by omega) (by omega) (by omega)).mono ?_; rintro e w' ⟨rfl, rfl⟩)
      | (go_at_call 18; refine (Divs.implDivideUp_no _ _ _ (by omega)).mono ?_; rintro e w' ⟨rfl, rfl⟩)
      | (go_at_call 21; refine (Divs.implPerMille_yes _ _ _ (by omega) (by omega) (by omega) (by omega)).mono ?_; rintro e w' ⟨rfl, rfl⟩)
      | (go_at_call 21; refine (Divs.implPerMille_no _ _ _ (by omega)).mono ?_; rintro e w' ⟨rfl, rfl⟩)
     )
      go_ret
      exact ⟨rfl, HB2.out⟩

set_option maxRecDepth 100000 in
theorem lifted (os : Os) (started : os.Started) (H : Type) (enc : TypeId × Value → H) :
    ReturnsInHanded {} Try.checked os 4 .any (Rows.fnRoundingSpec.pre6 enc Try.prog Try.f4 Rows.fnRoundingRow.domain false) (Rows.fnRoundingSpec.post enc Try.prog Try.f4 false true false false) := by
  refine returnsInHanded_of_change (C := Try.checked) own started (by kernel_rfl) Try.func4
    (ChangeSpec.witness6 (enc := enc) (C := Try.checked) false ⟨#[], #[.slice none 0 0], []⟩ 8 (by kernel_rfl) (by kernel_rfl) (by kernel_rfl) (by kernel_rfl)) ?_
  intro W base args ds gs before hval0 hW hcnd _
  have hval : ∀ (j : Nat) t v, Try.f4.params[j]? = some t → args[j]? = some v → Value.okWide Try.prog W .any base t v := hval0
  have hW' := hW
  obtain ⟨p, q, hA0, hV, rfl, hfz, hnd⟩ := hW
  have hA : DataW.TrodAll enc Try.prog W 0 (fun _ => true) true Try.f4.params.toList args.toList ds p := hA0
  rw [Try.params4] at hA hval
  obtain ⟨v0, vs0, d0, ds0, p0, q0, hargs, rfl, rfl, h0, r0⟩ := trodAll_cons hA
  obtain ⟨rfl, rfl, rfl⟩ := trodAll_nil r0
  obtain rfl : args = #[v0] := by cases args; simp_all
  obtain ⟨rfl, rfl⟩ := trodVars_none hV
  obtain ⟨a0, len0, cap0, rfl⟩ := okWide_slice Try.underlying22 (hval 0 22 v0 rfl rfl)
  have k0 := h0
  have lt0 : ∀ x ∈ p0, x.block < W.heap.size := by obtain ⟨m, hm⟩ := k0; exact DataW.trod_lt m _ _ _ hm
  obtain ⟨z0, w0⟩ : ∃ zs, IsRow .u8 W a0 len0 cap0 zs := by
    obtain ⟨fuel, hf⟩ := h0
    rcases open_ints Try.underlying22 Try.underlying5 (by kernel_rfl) hf with ⟨hcs, _⟩ | ⟨x, l, c, zs, hcs, _, hl, hm, hz, _, hcell, hwz⟩
    · simp [Value.cells] at hcs
      obtain ⟨rfl, rfl, rfl⟩ := hcs
      exact ⟨[], .inl ⟨rfl, rfl, rfl, rfl⟩⟩
    · simp [Value.cells] at hcs
      obtain ⟨rfl, rfl, rfl⟩ := hcs
      exact ⟨zs, .inr ⟨_, rfl, hl, hm, by simpa using hz, hcell, hwz⟩⟩
  clear hA0 hval0
  refine (walk a0 len0 cap0 z0 W w0).mono fun e W' ⟨he, bel⟩ => ?_
  subst he
  exact ⟨_, rfl, _, _, _, [], _, [], hW', trodAll_mk1 (shut_bool Try.underlying4 _), (trodAll_cons_mk (Below.trod laidOut (by kernel_rfl) (of_decide_eq_true (by kernel_rfl)) k0 bel lt0) trodAll_mk0), rfl, bel.frame _, fun h => by cases h⟩

theorem over : Rows.fnRoundingRow.holds Try.pinned (OpenSpec.ofChange Rows.fnRoundingSpec) :=
  OpenClaim.holds_of_wide 4 Try.f4 rfl rfl rfl rfl rfl rfl rfl ⟨rfl, rfl, rfl, rfl, rfl⟩ rfl rfl rfl rfl rfl (by kernel_rfl) Try.func4 (by kernel_rfl)
    (of_decide_eq_true (by kernel_rfl)) (by unfold Func.isWrapper; first | (rw [if_pos (by decide +kernel)]; kernel_rfl) | (rw [if_neg (by decide +kernel)]; exact ⟨rfl, rfl⟩))
    (fun os started H enc _ => lifted os started H enc)

theorem proved : Rows.FnRoundingSaid := over
end Go.Proofs.Ytdafgpikgpobbaa.fnRounding
