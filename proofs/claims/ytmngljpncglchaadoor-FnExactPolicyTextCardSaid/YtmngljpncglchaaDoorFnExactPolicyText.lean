/-
  Proved: the card of the law FnExactPolicyText: it returns true, for every input.
  Conditions: none: the given statement Rows.FnExactPolicyTextSaid, as it stands.
-/
import Derived.Test.YtmngljpncglchaaDoorStructs
import Derived.Test.YtmngljpncglchaaDoorCards
import Derived.Test.YtmngljpncglchaaDoorTie
import Derived.Deep.DeepHandedRow
import Derived.SevenTiedAt
import Derived.LaidMore
import Derived.Lay
import Derived.Deep.DeepWitnessRowRef
import Derived.WalkKit
import Derived.ProofKit
import Derived.OpenShut
import Derived.ShutString
import Derived.ChangeOld
import Derived.Below
import Derived.IntWalk
import Derived.Test.YtmngljpncglchaaDoorLaidTabs
import Derived.Test.YtmngljpncglchaaDoorPolicies
import Derived.Test.YtmngljpncglchaaDoorToPolicy
namespace Go.Proofs.YtmngljpncglchaaDoor.fnExactPolicyText
open Go.ChangeShapes Go.WideShapes Go.ChangeAt Go.RowKit
open Go.ChangeMaps (open_string shut_string)
set_option linter.unusedVariables false

theorem own : ownKnob Tryd.prog.godebug = none := by kernel_rfl
theorem laidOut : laidOutB Tryd.prog = true := by kernel_rfl

open Mem

-- the witness lies in World.laidAll
theorem walk (f0 f1 f2 f3 f4 : Int) (w : World) (w0 : (Lit.int .i64 f0).wf = true) (w1 : (Lit.int .i64 f1).wf = true) (w2 : (Lit.int .i64 f2).wf = true) (w3 : (Lit.int .i64 f3).wf = true) (w4 : (Lit.int .i64 f4).wf = true) (hL : laidMetH Tryd.prog Rows.fnExactPolicyTextRow.laid w) (hsh : w.ShapedOpen Tryd.prog) :
    Calls Tryd.prog 10 #[.agg #[.int .i64 f0, .int .i64 f1, .int .i64 f2, .int .i64 f3, .int .i64 f4]] w fun e w' => e = .returned (.bool true) ∧ Below w.heap.size w w' := by
  have HT := Lib.hid (LaidTabs.tab_of hL (by kernel_rfl))
  have HM := Lib.hid (Doors.doorM_of hsh)
  clear hL hsh w0 w1 w2 w3 w4
  have P1 := Lib.hid (fun w => Policies.specPolicyText_any f0 f1 f2 f3 f4 w)
  have P2 := Lib.hid (fun w' hT hM => Policies.implPolicyText_any f0 f1 f2 f3 f4 w.heap.size w' hT hM)
  generalize Policies.polT [f0, f1, f2, f3, f4] = tx at *
  go_enter Tryd.func10, Tryd.ntmps10
  go_wp2_with fail
  refine (ToPolicy.toPolicy_any f0 f1 f2 f3 f4 _).mono ?_; rintro r w1 ⟨rfl, hb1⟩
  have HB1 := Lib.hid (bl (b0 w _) hb1)
  have ⟨hc1, _⟩ := bcell hb1
  have hz1 : w.heap.size < w1.heap.size := by have := hb1.size; simp at this; omega
  clear hb1
  go_wp2_with fail
  refine (P1.out _).mono ?_; rintro r w2 ⟨rfl, hb2⟩
  have HB2 := Lib.hid (bl HB1.out hb2)
  have ⟨hc2, _⟩ := bcell hb2
  have hz2 : w.heap.size < w2.heap.size := by have := hb2.size; omega
  clear hb2
  go_wp2_with fail
  refine (ToPolicy.toPolicy_any f0 f1 f2 f3 f4 _).mono ?_; rintro r w3 ⟨rfl, hb3⟩
  have HB3 := Lib.hid (bl HB2.out hb3)
  clear hb3
  go_wp2_with fail
  refine (P2.out _ (HT.out.below HB3.out) (HM.out.below HB3.out)).mono ?_; rintro r w4 ⟨rfl, hb4⟩
  go_wp2
  go_ret
  exact ⟨rfl, bl HB3.out hb4⟩

set_option maxRecDepth 100000 in
theorem contract (H : Type) (enc : TypeId × Value → H) (W : World) (base : Nat) (args : Array Value) (ds gs : List (DataW H)) (before : List MemPlace)
    (hval0 : ∀ (j : Nat) t v, Tryd.f10.params[j]? = some t → args[j]? = some v → Value.okWide Tryd.prog W .any base t v)
    (hW : DataW.Whole enc Tryd.prog Tryd.f10.params.toList Rows.fnExactPolicyTextSpec.vars false W args.toList ds gs before) (hL : laidMetH Tryd.prog Rows.fnExactPolicyTextRow.laid W) (hsh : W.ShapedOpen Tryd.prog) :
    Calls Tryd.prog 10 args W fun e W' => ∃ v, e = .returned v ∧ Rows.fnExactPolicyTextSpec.post enc Tryd.prog Tryd.f10 false true false false W args v W' := by
  have hval : ∀ (j : Nat) t v, Tryd.f10.params[j]? = some t → args[j]? = some v → Value.okWide Tryd.prog W .any base t v := hval0
  have hW' := hW
  obtain ⟨p, q, hA0, hV, rfl, hfz, hnd⟩ := hW
  have hA : DataW.TrodAll enc Tryd.prog W 0 (fun _ => true) true Tryd.f10.params.toList args.toList ds p := hA0
  rw [Tryd.params10] at hA hval
  obtain ⟨v0, vs0, d0, ds0, p0, q0, hargs, rfl, rfl, h0, r0⟩ := trodAll_cons hA
  obtain ⟨rfl, rfl, rfl⟩ := trodAll_nil r0
  obtain rfl : args = #[v0] := by cases args; simp_all
  obtain ⟨rfl, rfl⟩ := trodVars_none hV
  have k0 := h0
  have lt0 : ∀ x ∈ p0, x.block < W.heap.size := by obtain ⟨m, hm⟩ := k0; exact DataW.trod_lt m _ _ _ hm
  obtain ⟨c0_0, c0_1, c0_2, c0_3, c0_4, y0_0, y0_1, y0_2, y0_3, y0_4, m0, hag0, _, _, hy0_0, hy0_1, hy0_2, hy0_3, hy0_4⟩ := Structs.open_agg5 Tryd.underlying61 (by kernel_rfl) (by kernel_rfl) (hval 0 61 v0 rfl rfl) h0
  obtain ⟨f0_0, e0_0, _, wf0_0⟩ := DataW.trod_int Tryd.underlying2 hy0_0
  simp at e0_0
  subst e0_0
  obtain ⟨f0_1, e0_1, _, wf0_1⟩ := DataW.trod_int Tryd.underlying2 hy0_1
  simp at e0_1
  subst e0_1
  obtain ⟨f0_2, e0_2, _, wf0_2⟩ := DataW.trod_int Tryd.underlying2 hy0_2
  simp at e0_2
  subst e0_2
  obtain ⟨f0_3, e0_3, _, wf0_3⟩ := DataW.trod_int Tryd.underlying2 hy0_3
  simp at e0_3
  subst e0_3
  obtain ⟨f0_4, e0_4, _, wf0_4⟩ := DataW.trod_int Tryd.underlying2 hy0_4
  simp at e0_4
  subst e0_4
  subst hag0
  clear hA0 hval0
  refine (walk f0_0 f0_1 f0_2 f0_3 f0_4 W wf0_0 wf0_1 wf0_2 wf0_3 wf0_4 hL hsh).mono fun e W' ⟨he, bel⟩ => ?_
  subst he
  exact ⟨_, rfl, _, _, _, [], _, [], hW', trodAll_mk1 (shut_bool Tryd.underlying4 _), (trodAll_cons_mk (Below.trod laidOut (by kernel_rfl) (of_decide_eq_true (by kernel_rfl)) k0 bel lt0) trodAll_mk0), rfl, bel.frame _, fun h => by cases h⟩

noncomputable def laidWorld (os : Os) : World := World.laidAll Tryd.prog os Rows.fnExactPolicyTextRow.laid
theorem laid_met (os : Os) : laidMet Tryd.prog Rows.fnExactPolicyTextRow.laid ((laidWorld os).forCall (fun _ _ => 0) ⟨#[], #[.agg #[.int .i64 0, .int .i64 0, .int .i64 0, .int .i64 0, .int .i64 0]], []⟩).memory :=
  laidMet_laidAll _ (by kernel_rfl) (by kernel_rfl)
theorem reads (os : Os) {H : Type} (enc : TypeId × Value → H) : ∃ places, DataW.whole enc Tryd.prog ((laidWorld os).forCall (fun _ _ => 0) ⟨#[], #[.agg #[.int .i64 0, .int .i64 0, .int .i64 0, .int .i64 0, .int .i64 0]], []⟩).memory Tryd.f10.params.toList Rows.fnExactPolicyTextSpec.vars false (#[.agg #[.int .i64 0, .int .i64 0, .int .i64 0, .int .i64 0, .int .i64 0]] : Array Value).toList 8 = some ([.agg [.lit (.int .i64 0), .lit (.int .i64 0), .lit (.int .i64 0), .lit (.int .i64 0), .lit (.int .i64 0)]], [], places) :=
  ⟨[], by kernel_rfl⟩
set_option maxRecDepth 100000 in
theorem lifted (os : Os) (started : os.Started) (H : Type) (enc : TypeId × Value → H) (F : Stop.Interp) :
    ReturnsInHanded {} Tryd.checked os 10 .any ((OpenSpec.ofChange Rows.fnExactPolicyTextSpec).preRow enc Tryd.prog Tryd.f10 Rows.fnExactPolicyTextRow.domain false Rows.fnExactPolicyTextRow.laid) (((OpenSpec.ofChange Rows.fnExactPolicyTextSpec).at F).post enc Tryd.prog Tryd.f10 false true false false) := by
  obtain ⟨places, hx⟩ := reads os enc
  refine returnsInHanded_of_row (C := Tryd.checked) (s := OpenSpec.ofChange Rows.fnExactPolicyTextSpec) own started (by kernel_rfl) Tryd.func10
    (witness_row_atRef (enc := enc) (C := Tryd.checked) false (laidWorld os) #[.agg #[.int .i64 0, .int .i64 0, .int .i64 0, .int .i64 0, .int .i64 0]] (World.laidAll_os _ _ _) (by kernel_rfl) (by kernel_rfl) (by kernel_rfl) (OpenSpec.preRow_of_cond 8 hx (by kernel_rfl) (fun k hk => by cases hk) (by kernel_rfl) (laid_met os))) ?_
  intro W base args ds gs before hval hW _ _ _ hL hsh _
  exact contract H enc W base args ds gs before hval hW hL hsh

theorem said : Rows.FnExactPolicyTextSaid :=
  OpenClaim.holds_of_cond 10 Tryd.f10 rfl rfl rfl rfl rfl rfl rfl ⟨rfl, rfl, rfl, rfl, rfl⟩ rfl rfl rfl rfl rfl (by kernel_rfl) Tryd.func10 (by kernel_rfl)
    (of_decide_eq_true (by kernel_rfl)) (by unfold Func.isWrapper; first | (rw [if_pos (by decide +kernel)]; kernel_rfl) | (rw [if_neg (by decide +kernel)]; exact ⟨rfl, rfl⟩))
    (fun os started H enc _ F => by rw [OpenClaim.pre_eq_preRow]; exact lifted os started H enc F)

theorem plain (f : FuncId) (fn : Func) (hf : Tryd.pinned.checked.prog.funcNamed "loop.example/g01025/laws.FnExactPolicyText" = some f) (hfn : Tryd.pinned.checked.prog.funcs[f]? = some fn) :
    Rows.fnExactPolicyTextCard.stood.looks = Tryd.pinned.checked.prog.looks [] ∧ ∀ (j : Nat) t, fn.params[j]? = some t → Tryd.pinned.checked.prog.wantsStandIn t = false := by
  obtain rfl : f = 10 := Option.some.inj ((show Tryd.prog.funcNamed "loop.example/g01025/laws.FnExactPolicyText" = some 10 by kernel_rfl).symm.trans hf) |>.symm
  obtain rfl : fn = Tryd.f10 := (Option.some.inj (Tryd.func10.symm.trans hfn)).symm
  refine ⟨by kernel_rfl, fun j t ht => ?_⟩
  rw [Tryd.params10] at ht
  have hm := Array.mem_of_getElem? ht
  simp only [List.mem_toArray, List.mem_cons, List.not_mem_nil, or_false] at hm
  rcases hm with rfl
  exact (show Tryd.prog.wantsStandIn 61 = false by kernel_rfl)
theorem proved : Rows.FnExactPolicyTextCardSaid :=
  Claim7.holds_tied_plain_at .later [] _ _ _ _ said (fun _ h => by cases h) (by kernel_rfl) (fun _ h => by cases h) fnExactPolicyText_row_tie rfl ⟨rfl, rfl⟩ (by kernel_rfl) rfl plain (by kernel_rfl)
end Go.Proofs.YtmngljpncglchaaDoor.fnExactPolicyText
