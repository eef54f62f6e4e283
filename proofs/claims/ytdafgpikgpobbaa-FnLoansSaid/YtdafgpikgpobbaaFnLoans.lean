/-
  Proved: the law FnLoans returns true, for every input.
  Conditions: none: the given statement Rows.FnLoansSaid, as it stands.
-/
import Derived.Test.YtdafgpikgpobbaaRows
import Derived.WalkKit
import Derived.ProofKit
import Derived.OpenShut
import Derived.ShutString
import Derived.ChangeOld
import Derived.Below
import Derived.IntWalk
import Derived.Test.YtdafgpikgpobbaaLoanLaw
import Derived.Test.YtdafgpikgpobbaaDraws3
namespace Go.Proofs.Ytdafgpikgpobbaa.fnLoans
open Go.ChangeShapes Go.WideShapes Go.ChangeAt Go.RowKit
open Go.ChangeMaps (open_string shut_string)
set_option linter.unusedVariables false

theorem own : ownKnob Try.prog.godebug = none := by kernel_rfl
theorem laidOut : laidOutB Try.prog = true := by kernel_rfl

open Mem

set_option maxHeartbeats 1000000 in
set_option maxRecDepth 100000 in
theorem walk (a0 : Option Addr) (len0 cap0 : Nat) (z0 : List Int) (w : World) (w0 : IsRow .u8 w a0 len0 cap0 z0) :
    Calls Try.prog 8 #[.slice a0 len0 cap0] w fun e w' => e = .returned (.bool true) ∧ Below w.heap.size w w' := by
  have hlen : len0 ≤ 9223372036854775807 := by
    rcases w0 with ⟨_, rfl, _⟩ | ⟨_, _, h1, h2, _⟩
    · omega
    · unfold maxLen at h2; omega
  by_cases hbig : 4096 < len0
  · clear w0
    go_enter Try.func8, Try.ntmps8
    go_wp2
    go_ret
    exact ⟨rfl, Below.refl _ _⟩
  go_enter Try.func8, Try.ntmps8
  go_wp2_with (go_at_call 11; go_in)
  refine (Draws.drawLoanPlan _ _ _ _ _ w0 (by omega)).mono ?_; rintro e w1 ⟨a, r, y, rfl, ha, hr, hy, hB⟩
  have HB1 := Lib.hid hB
  clear w0 hB ha hr hy
  have hlen1 := LoanPlans.planA_length a r y
  have C1 := Lib.hid (LoanPlans.specLoanPlan_any a r y)
  have C2 := Lib.hid (LoanPlans.implLoanPlan_any a r y)
  have C3 := Lib.hid (fun w => LoanLaw.specLoanPayment_any a r y w)
  have C4 := Lib.hid (fun w => LoanLaw.implLoanPayment_any a r y w)
  have P := Lib.hid (LoanLaw.plans a r y)
  unfold LoanLaw.Plans at P
  generalize LoanPlans.planA a r y = xs at *
  generalize LoanPlans.codeA a r y = c at *
  generalize LoanLaw.payV a r y = p at *
  generalize LoanLaw.payC a r y = pc at *
  go_wp2_with fail
  refine (C2.out _).mono ?_; rintro e w2 ⟨v2, rfl, hs2, hb2⟩
  have HR2 := Lib.hid hs2.rd
  have HB2 := Lib.hid (bl HB1.out hb2)
  clear hs2 hb2
  go_wp2_with fail
  refine (C1.out _).mono ?_; rintro e w3 ⟨v3, rfl, hs3, hb3⟩
  have HR3 := Lib.hid (HR2.out.below hb3)
  have HQ3 := Lib.hid hs3.rd
  have HB3 := Lib.hid (bl HB2.out hb3)
  clear hs3 hb3
  go_wp2_with fail
  refine (C4.out _).mono ?_; rintro e w4 ⟨rfl, hb4⟩
  have HR4 := Lib.hid (HR3.out.below hb4)
  have HQ4 := Lib.hid (HQ3.out.below hb4)
  have HB4 := Lib.hid (bl HB3.out hb4)
  clear hb4
  go_wp2_with fail
  refine (C3.out _).mono ?_; rintro e w5 ⟨rfl, hb5⟩
  have HR5 := Lib.hid (HR4.out.below hb5)
  have HQ5 := Lib.hid (HQ4.out.below hb5)
  have HB5 := Lib.hid (bl HB4.out hb5)
  clear hb5
  go_wp2_with fail
  refine (Likes.likeInts_yes _ _ xs _ HR5.out HQ5.out).mono ?_; rintro e w6 ⟨rfl, hb6⟩
  have HR6 := Lib.hid (HR5.out.below hb6)
  have HB6 := Lib.hid (bl HB5.out hb6)
  clear hb6
  by_cases hc : c = 0
  · subst hc
    obtain ⟨B, r1, r2, p1, p2, p3, b0, bb, bl0, st⟩ := P.out rfl
    subst p3
    have BB := Lib.hid bb
    have ST := Lib.hid st
    have B0 := Lib.hid b0
    have BL := Lib.hid bl0
    clear bb st b0 bl0
    rcases HR6.out with ⟨rfl, rfl⟩ | ⟨b, off, cap, rfl, hn, hln, hcp, hbl, hx⟩
    · have ha0 : a = 0 := by have h1 := B0.out; have h2 := BL.out; simp only [List.length_nil] at h2; omega
      subst ha0
      go_wp2
      refine wp_loop_rounds 1 ?_; rw [rounds_succ]
      go_wp2
      go_ret
      exact ⟨rfl, HB6.out⟩
    · have HX := Lib.hid hx
      clear hx
      go_wp2
      go_loopw [14, 15] (fun t i wr => ∃ (k q : Nat), k ≤ xs.length ∧ i = .int .i64 k ∧ t = .int .i64 (B k) ∧ wr = w6.drewN q) (fun _ i _ => xs.length - (intOf i).toNat)
      case atStart => exact ⟨0, 0, by omega, rfl, by rw [B0.out], rfl⟩
      case round =>
        obtain ⟨k, q, hk, rfl, rfl, rfl⟩ := hrel
        by_cases hlt : k < xs.length
        · obtain ⟨x1, x2, x3, x4⟩ := ST.out k hlt
          have hc1 : (w6.drewN q).cell? ⟨b, off + k, none⟩ = some (.int .i64 (xs.getD k 0)) := HX.out k hlt
          have hc2 : w6.cell? ⟨b, off + k, none⟩ = some (.int .i64 (xs.getD k 0)) := HX.out k hlt
          have hki : (k : Int) < (xs.length : Int) := by omega
          obtain ⟨t1, t2⟩ := BB.out k
          obtain ⟨m1, m2⟩ := Plain.mul_bd (B k) r 100000000 200 t1 t2 r1 r2
          obtain ⟨u1, u2⟩ := Plain.upq_bd (B k * r) 1000 m1 (by omega)
          obtain ⟨t3, t4⟩ := BB.out (k + 1)
          have EB := Lib.hid x4
          rw [x4] at t3 t4
          clear x4
          generalize B k = t at *
          generalize xs.getD k 0 = x at *
          by_cases hl2 : k + 1 < xs.length
          · have hl3 : (k : Int) < (xs.length : Int) - 1 := by omega
            obtain rfl := x3 hl2
            go_wp2_with (go_at_call 18; refine (Divs.implDivideUp_yes _ _ _ (by omega) (by omega) (by omega) (by omega)).mono ?_; rintro e w' ⟨rfl, rfl⟩)
            go_roundw
            case rel => exact ⟨k + 1, _, by omega, by go_num, by rw [EB.out], by first | rfl | exact World.drewN_drewN ..⟩
            case measure => simp [intOf]; omega
          · have hl3 : (xs.length : Int) - 1 ≤ (k : Int) := by omega
            clear x3
            go_wp2_with (go_at_call 18; refine (Divs.implDivideUp_yes _ _ _ (by omega) (by omega) (by omega) (by omega)).mono ?_; rintro e w' ⟨rfl, rfl⟩)
            go_roundw
            case rel => exact ⟨k + 1, _, by omega, by go_num, by rw [EB.out], by first | rfl | exact World.drewN_drewN ..⟩
            case measure => simp [intOf]; omega
        · obtain rfl : k = xs.length := by omega
          have hz : Hid (B xs.length = 0) := BL.out
          go_wp2
          go_ret
          exact ⟨Base.ret_bool (by first | rfl | (rw [hz.out]; rfl)), by first | exact HB6.out | exact below_drewN HB6.out _⟩
  · go_wp2
    go_ret
    exact ⟨rfl, HB6.out⟩

set_option maxRecDepth 100000 in
theorem lifted (os : Os) (started : os.Started) (H : Type) (enc : TypeId × Value → H) :
    ReturnsInHanded {} Try.checked os 8 .any (Rows.fnLoansSpec.pre6 enc Try.prog Try.f8 Rows.fnLoansRow.domain false) (Rows.fnLoansSpec.post enc Try.prog Try.f8 false true false false) := by
  refine returnsInHanded_of_change (C := Try.checked) own started (by kernel_rfl) Try.func8
    (ChangeSpec.witness6 (enc := enc) (C := Try.checked) false ⟨#[], #[.slice none 0 0], []⟩ 8 (by kernel_rfl) (by kernel_rfl) (by kernel_rfl) (by kernel_rfl)) ?_
  intro W base args ds gs before hval0 hW hcnd _
  have hval : ∀ (j : Nat) t v, Try.f8.params[j]? = some t → args[j]? = some v → Value.okWide Try.prog W .any base t v := hval0
  have hW' := hW
  obtain ⟨p, q, hA0, hV, rfl, hfz, hnd⟩ := hW
  have hA : DataW.TrodAll enc Try.prog W 0 (fun _ => true) true Try.f8.params.toList args.toList ds p := hA0
  rw [Try.params8] at hA hval
  obtain ⟨v0, vs0, d0, ds0, p0, q0, hargs, rfl, rfl, h0, r0⟩ := trodAll_cons hA
  obtain ⟨rfl, rfl, rfl⟩ := trodAll_nil r0
  obtain rfl : args = #[v0] := by cases args; simp_all
  obtain ⟨rfl, rfl⟩ := trodVars_none hV
  obtain ⟨a0, len0, cap0, rfl⟩ := okWide_slice Try.underlying22 (hval 0 22 v0 rfl rfl)
  have k0 := h0
  have lt0 : ∀ x ∈ p0, x.block < W.heap.size := by obtain ⟨m, hm⟩ := k0; exact DataW.trod_lt m _ _ _ hm
  obtain ⟨z0, w0⟩ : ∃ zs, IsRow .u8 W a0 len0 cap0 zs := by
    obtain ⟨fuel, hf⟩ := h0
    rcases open_ints Try.underlying22 Try.underlying5 (by kernel_rfl) hf with ⟨hcs, _⟩ | ⟨x, l, c, zs, hcs, _, hl, hm, hz, _, hcell, hwz⟩
    · simp [Value.cells] at hcs
      obtain ⟨rfl, rfl, rfl⟩ := hcs
      exact ⟨[], .inl ⟨rfl, rfl, rfl, rfl⟩⟩
    · simp [Value.cells] at hcs
      obtain ⟨rfl, rfl, rfl⟩ := hcs
      exact ⟨zs, .inr ⟨_, rfl, hl, hm, by simpa using hz, hcell, hwz⟩⟩
  clear hA0 hval0
  refine (walk a0 len0 cap0 z0 W w0).mono fun e W' ⟨he, bel⟩ => ?_
  subst he
  exact ⟨_, rfl, _, _, _, [], _, [], hW', trodAll_mk1 (shut_bool Try.underlying4 _), (trodAll_cons_mk (Below.trod laidOut (by kernel_rfl) (of_decide_eq_true (by kernel_rfl)) k0 bel lt0) trodAll_mk0), rfl, bel.frame _, fun h => by cases h⟩

theorem over : Rows.fnLoansRow.holds Try.pinned (OpenSpec.ofChange Rows.fnLoansSpec) :=
  OpenClaim.holds_of_wide 8 Try.f8 rfl rfl rfl rfl rfl rfl rfl ⟨rfl, rfl, rfl, rfl, rfl⟩ rfl rfl rfl rfl rfl (by kernel_rfl) Try.func8 (by kernel_rfl)
    (of_decide_eq_true (by kernel_rfl)) (by unfold Func.isWrapper; first | (rw [if_pos (by decide +kernel)]; kernel_rfl) | (rw [if_neg (by decide +kernel)]; exact ⟨rfl, rfl⟩))
    (fun os started H enc _ => lifted os started H enc)

theorem proved : Rows.FnLoansSaid := over
end Go.Proofs.Ytdafgpikgpobbaa.fnLoans
