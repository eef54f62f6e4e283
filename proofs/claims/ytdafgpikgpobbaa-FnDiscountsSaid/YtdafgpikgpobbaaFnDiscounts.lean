/-
  Proved: the law FnDiscounts returns true, for every input.
  Conditions: none: the given statement Rows.FnDiscountsSaid, as it stands.
-/
import Derived.Test.YtdafgpikgpobbaaRows
import Derived.WalkKit
import Derived.ProofKit
import Derived.OpenShut
import Derived.ShutString
import Derived.ChangeOld
import Derived.Below
import Derived.IntWalk
import Derived.Test.YtdafgpikgpobbaaDiscLaw
import Derived.Test.YtdafgpikgpobbaaDraws4
namespace Go.Proofs.Ytdafgpikgpobbaa.fnDiscounts
open Go.ChangeShapes Go.WideShapes Go.ChangeAt Go.RowKit
open Go.ChangeMaps (open_string shut_string)
set_option linter.unusedVariables false

theorem own : ownKnob Try.prog.godebug = none := by kernel_rfl
theorem laidOut : laidOutB Try.prog = true := by kernel_rfl

open Mem

set_option maxHeartbeats 1000000 in
set_option maxRecDepth 100000 in
theorem walk (a0 : Option Addr) (len0 cap0 : Nat) (z0 : List Int) (w : World) (w0 : IsRow .u8 w a0 len0 cap0 z0) :
    Calls Try.prog 9 #[.slice a0 len0 cap0] w fun e w' => e = .returned (.bool true) ∧ Below w.heap.size w w' := by
  have hlen : len0 ≤ 9223372036854775807 := by
    rcases w0 with ⟨_, rfl, _⟩ | ⟨_, _, h1, h2, _⟩
    · omega
    · unfold maxLen at h2; omega
  by_cases hbig : 4096 < len0
  · clear w0
    go_enter Try.func9, Try.ntmps9
    go_wp2
    go_ret
    exact ⟨rfl, Below.refl _ _⟩
  go_enter Try.func9, Try.ntmps9
  go_wp2_with (go_at_call 11; go_in)
  refine (Draws.drawDiscountOf _ _ _ _ _ w0 (by omega)).mono ?_; rintro e w1 ⟨r, y, rfl, ha, hy, hB⟩
  have HB1 := Lib.hid hB
  have W1 := Lib.hid (Draws.row_below w0 hB)
  clear w0 hB ha hy
  have A1 := Lib.hid (fun w => DiscLaw.implDiscountOf_any r y w)
  have A2 := Lib.hid (fun w => DiscLaw.specDiscountOf_any r y w)
  have A3 := Lib.hid (fun w => DiscLaw.implCertainAnnuity_any r y w)
  have A4 := Lib.hid (fun w => DiscLaw.specCertainAnnuity_any r y w)
  have A5 := Lib.hid (fun w => DiscLaw.implDiscountOf_any r (y - 1) w)
  have A6 := Lib.hid (fun w => DiscLaw.implCertainAnnuity_any r (y - 1) w)
  have F := Lib.hid (DiscLaw.disc_facts r y)
  generalize DiscLaw.dV r y = d at *
  generalize DiscLaw.aV r y = s at *
  generalize DiscLaw.dC r y = c at *
  generalize DiscLaw.dV r (y - 1) = d1 at *
  generalize DiscLaw.aV r (y - 1) = s1 at *
  generalize DiscLaw.dC r (y - 1) = c1 at *
  go_wp2_with fail
  refine (A1.out _).mono ?_; rintro e w2 ⟨rfl, hb⟩
  have HB2 := Lib.hid (bl HB1.out hb)
  have W2 := Lib.hid (Draws.row_below W1.out hb)
  clear hb
  go_wp2_with fail
  refine (A2.out _).mono ?_; rintro e w3 ⟨rfl, hb⟩
  have HB3 := Lib.hid (bl HB2.out hb)
  have W3 := Lib.hid (Draws.row_below W2.out hb)
  clear hb
  go_wp2_with fail
  refine (A3.out _).mono ?_; rintro e w4 ⟨rfl, hb⟩
  have HB4 := Lib.hid (bl HB3.out hb)
  have W4 := Lib.hid (Draws.row_below W3.out hb)
  clear hb
  go_wp2_with fail
  refine (A4.out _).mono ?_; rintro e w5 ⟨rfl, hb⟩
  have HB5 := Lib.hid (bl HB4.out hb)
  have W5 := Lib.hid (Draws.row_below W4.out hb)
  clear hb
  go_wp2_with fail
  refine (Draws.drawPresentValue _ _ _ _ _ W5.out (by omega)).mono ?_; rintro e w6 ⟨v, xs, q, rfl, hrd, hxl, hall, hq, hB⟩
  have HB6 := Lib.hid (bl HB5.out hB)
  have R6 := Lib.hid hrd
  clear hB hrd hall hq
  have P1 := Lib.hid (fun w h => DiscLaw.implPresentValue_any v xs q w h)
  have P2 := Lib.hid (fun w h => DiscLaw.specPresentValue_any v xs q w h)
  have G := Lib.hid (DiscLaw.present_facts xs q)
  generalize DiscLaw.pV xs q = p at *
  generalize DiscLaw.pC xs q = pc at *
  go_wp2_with fail
  refine (P1.out _ R6.out).mono ?_; rintro e w7 ⟨rfl, hb⟩
  have HB7 := Lib.hid (bl HB6.out hb)
  have R7 := Lib.hid (R6.out.below hb)
  clear hb
  go_wp2_with fail
  refine (P2.out _ R7.out).mono ?_; rintro e w8 ⟨rfl, hb⟩
  have HB8 := Lib.hid (bl HB7.out hb)
  have R8 := Lib.hid (R7.out.below hb)
  clear hb
  have HR := Lib.hid R8.out
  have HBB := Lib.hid HB8.out
  by_cases hp : pc = 0
  · subst hp
    obtain ⟨g1, g2, g3⟩ := G.out rfl
    have S := Lib.hid (fun w h => Likes.sum_any v xs w h 1000000000 (by omega) g3 (by omega))
    clear g3
    generalize xs.sum = t at *
    by_cases hq : q = 0
    · obtain rfl := g2 hq
      subst hq
      clear g2
      rcases (by omega : ¬ c = 0 ∨ (c = 0 ∧ y = 0) ∨ (c = 0 ∧ ¬ y = 0)) with hc | ⟨hc, hy⟩ | ⟨hc, hy⟩
      · go_wp2_with (first | (go_at_call 59; refine (S.out _ HR.out).mono ?_; rintro e w' ⟨rfl, hb⟩; have HR := Lib.hid (HR.out.below hb); have HBB := Lib.hid (bl HBB.out hb); clear hb))
        go_ret
        exact ⟨rfl, HBB.out⟩
      · subst hc
        obtain ⟨f1, f2⟩ := (F.out rfl).1 hy
        subst hy f1 f2
        go_wp2_with (first | (go_at_call 59; refine (S.out _ HR.out).mono ?_; rintro e w' ⟨rfl, hb⟩; have HR := Lib.hid (HR.out.below hb); have HBB := Lib.hid (bl HBB.out hb); clear hb))
        go_ret
        exact ⟨rfl, HBB.out⟩
      · subst hc
        obtain ⟨f1, f2, f3, f4, f5, f6, f7, f8, f9⟩ := (F.out rfl).2 hy
        subst f1
        go_wp2_with (first | (go_at_call 59; refine (S.out _ HR.out).mono ?_; rintro e w' ⟨rfl, hb⟩; have HR := Lib.hid (HR.out.below hb); have HBB := Lib.hid (bl HBB.out hb); clear hb) | (go_at_call 52; refine (A5.out _).mono ?_; rintro e w' ⟨rfl, hb⟩; have HBB := Lib.hid (bl HBB.out hb); clear hb) | (go_at_call 54; refine (A6.out _).mono ?_; rintro e w' ⟨rfl, hb⟩; have HBB := Lib.hid (bl HBB.out hb); clear hb))
        go_ret
        exact ⟨by first | rfl | exact Base.ret_bool (decide_eq_true (by omega)), HBB.out⟩
    · have hq2 : (q == 0) = false := by simpa using hq
      clear g2
      rcases (by omega : ¬ c = 0 ∨ (c = 0 ∧ y = 0) ∨ (c = 0 ∧ ¬ y = 0)) with hc | ⟨hc, hy⟩ | ⟨hc, hy⟩
      · go_wp2_with (first | (go_at_call 59; refine (S.out _ HR.out).mono ?_; rintro e w' ⟨rfl, hb⟩; have HR := Lib.hid (HR.out.below hb); have HBB := Lib.hid (bl HBB.out hb); clear hb))
        go_ret
        exact ⟨rfl, HBB.out⟩
      · subst hc
        obtain ⟨f1, f2⟩ := (F.out rfl).1 hy
        subst hy f1 f2
        go_wp2_with (first | (go_at_call 59; refine (S.out _ HR.out).mono ?_; rintro e w' ⟨rfl, hb⟩; have HR := Lib.hid (HR.out.below hb); have HBB := Lib.hid (bl HBB.out hb); clear hb))
        go_ret
        exact ⟨rfl, HBB.out⟩
      · subst hc
        obtain ⟨f1, f2, f3, f4, f5, f6, f7, f8, f9⟩ := (F.out rfl).2 hy
        subst f1
        go_wp2_with (first | (go_at_call 59; refine (S.out _ HR.out).mono ?_; rintro e w' ⟨rfl, hb⟩; have HR := Lib.hid (HR.out.below hb); have HBB := Lib.hid (bl HBB.out hb); clear hb) | (go_at_call 52; refine (A5.out _).mono ?_; rintro e w' ⟨rfl, hb⟩; have HBB := Lib.hid (bl HBB.out hb); clear hb) | (go_at_call 54; refine (A6.out _).mono ?_; rintro e w' ⟨rfl, hb⟩; have HBB := Lib.hid (bl HBB.out hb); clear hb))
        go_ret
        exact ⟨by first | rfl | exact Base.ret_bool (decide_eq_true (by omega)), HBB.out⟩
  · clear G
    rcases (by omega : ¬ c = 0 ∨ (c = 0 ∧ y = 0) ∨ (c = 0 ∧ ¬ y = 0)) with hc | ⟨hc, hy⟩ | ⟨hc, hy⟩
    · go_wp2_with (first | fail)
      go_ret
      exact ⟨rfl, HBB.out⟩
    · subst hc
      obtain ⟨f1, f2⟩ := (F.out rfl).1 hy
      subst hy f1 f2
      go_wp2_with (first | fail)
      go_ret
      exact ⟨rfl, HBB.out⟩
    · subst hc
      obtain ⟨f1, f2, f3, f4, f5, f6, f7, f8, f9⟩ := (F.out rfl).2 hy
      subst f1
      go_wp2_with (first | (go_at_call 52; refine (A5.out _).mono ?_; rintro e w' ⟨rfl, hb⟩; have HBB := Lib.hid (bl HBB.out hb); clear hb) | (go_at_call 54; refine (A6.out _).mono ?_; rintro e w' ⟨rfl, hb⟩; have HBB := Lib.hid (bl HBB.out hb); clear hb))
      go_ret
      exact ⟨by first | rfl | exact Base.ret_bool (decide_eq_true (by omega)), HBB.out⟩

set_option maxRecDepth 100000 in
theorem lifted (os : Os) (started : os.Started) (H : Type) (enc : TypeId × Value → H) :
    ReturnsInHanded {} Try.checked os 9 .any (Rows.fnDiscountsSpec.pre6 enc Try.prog Try.f9 Rows.fnDiscountsRow.domain false) (Rows.fnDiscountsSpec.post enc Try.prog Try.f9 false true false false) := by
  refine returnsInHanded_of_change (C := Try.checked) own started (by kernel_rfl) Try.func9
    (ChangeSpec.witness6 (enc := enc) (C := Try.checked) false ⟨#[], #[.slice none 0 0], []⟩ 8 (by kernel_rfl) (by kernel_rfl) (by kernel_rfl) (by kernel_rfl)) ?_
  intro W base args ds gs before hval0 hW hcnd _
  have hval : ∀ (j : Nat) t v, Try.f9.params[j]? = some t → args[j]? = some v → Value.okWide Try.prog W .any base t v := hval0
  have hW' := hW
  obtain ⟨p, q, hA0, hV, rfl, hfz, hnd⟩ := hW
  have hA : DataW.TrodAll enc Try.prog W 0 (fun _ => true) true Try.f9.params.toList args.toList ds p := hA0
  rw [Try.params9] at hA hval
  obtain ⟨v0, vs0, d0, ds0, p0, q0, hargs, rfl, rfl, h0, r0⟩ := trodAll_cons hA
  obtain ⟨rfl, rfl, rfl⟩ := trodAll_nil r0
  obtain rfl : args = #[v0] := by cases args; simp_all
  obtain ⟨rfl, rfl⟩ := trodVars_none hV
  obtain ⟨a0, len0, cap0, rfl⟩ := okWide_slice Try.underlying22 (hval 0 22 v0 rfl rfl)
  have k0 := h0
  have lt0 : ∀ x ∈ p0, x.block < W.heap.size := by obtain ⟨m, hm⟩ := k0; exact DataW.trod_lt m _ _ _ hm
  obtain ⟨z0, w0⟩ : ∃ zs, IsRow .u8 W a0 len0 cap0 zs := by
    obtain ⟨fuel, hf⟩ := h0
    rcases open_ints Try.underlying22 Try.underlying5 (by kernel_rfl) hf with ⟨hcs, _⟩ | ⟨x, l, c, zs, hcs, _, hl, hm, hz, _, hcell, hwz⟩
    · simp [Value.cells] at hcs
      obtain ⟨rfl, rfl, rfl⟩ := hcs
      exact ⟨[], .inl ⟨rfl, rfl, rfl, rfl⟩⟩
    · simp [Value.cells] at hcs
      obtain ⟨rfl, rfl, rfl⟩ := hcs
      exact ⟨zs, .inr ⟨_, rfl, hl, hm, by simpa using hz, hcell, hwz⟩⟩
  clear hA0 hval0
  refine (walk a0 len0 cap0 z0 W w0).mono fun e W' ⟨he, bel⟩ => ?_
  subst he
  exact ⟨_, rfl, _, _, _, [], _, [], hW', trodAll_mk1 (shut_bool Try.underlying4 _), (trodAll_cons_mk (Below.trod laidOut (by kernel_rfl) (of_decide_eq_true (by kernel_rfl)) k0 bel lt0) trodAll_mk0), rfl, bel.frame _, fun h => by cases h⟩

theorem over : Rows.fnDiscountsRow.holds Try.pinned (OpenSpec.ofChange Rows.fnDiscountsSpec) :=
  OpenClaim.holds_of_wide 9 Try.f9 rfl rfl rfl rfl rfl rfl rfl ⟨rfl, rfl, rfl, rfl, rfl⟩ rfl rfl rfl rfl rfl (by kernel_rfl) Try.func9 (by kernel_rfl)
    (of_decide_eq_true (by kernel_rfl)) (by unfold Func.isWrapper; first | (rw [if_pos (by decide +kernel)]; kernel_rfl) | (rw [if_neg (by decide +kernel)]; exact ⟨rfl, rfl⟩))
    (fun os started H enc _ => lifted os started H enc)

theorem proved : Rows.FnDiscountsSaid := over
end Go.Proofs.Ytdafgpikgpobbaa.fnDiscounts
