/-
  Proved: the card of the law FnExactReadPolicy: it returns true, for every input.
  Conditions: none: the given statement Rows.FnExactReadPolicySaid, as it stands.
-/
import Derived.Test.YtfnmomdjmhbffaaDoorCards
import Derived.Test.YtfnmomdjmhbffaaDoorTie
import Derived.Deep.DeepHandedRow
import Derived.SevenTiedAt
import Derived.LaidMore
import Derived.Lay
import Derived.Deep.DeepWitnessRowRef
import Derived.WalkKit
import Derived.ProofKit
import Derived.OpenShut
import Derived.ShutString
import Derived.ChangeOld
import Derived.Below
import Derived.IntWalk
import Derived.Test.YtfnmomdjmhbffaaDoorLaidTabs
import Derived.Test.YtfnmomdjmhbffaaDoorReadPols3
namespace Go.Proofs.YtfnmomdjmhbffaaDoor.fnExactReadPolicy
open Go.ChangeShapes Go.WideShapes Go.ChangeAt Go.RowKit
open Go.ChangeMaps (open_string shut_string)
set_option linter.unusedVariables false

theorem own : ownKnob Tryd.prog.godebug = none := by kernel_rfl

open Mem

set_option maxRecDepth 100000 in
-- the witness lies in World.laidAll
theorem walk (a0 : ByteArray) (w0 : a0.size ≤ 9223372036854775807) (w : World) (hL : laidMetH Tryd.prog Rows.fnExactReadPolicyRow.laid w) (hsh : w.ShapedOpen Tryd.prog) :
    Calls Tryd.prog 3 #[.string a0] w fun e w' => e = .returned (.bool true) ∧ Below w.heap.size w w' := by
  have HT := Lib.hid (LaidTabs.tab_of hL (by kernel_rfl))
  have HD := Lib.hid (Doors.doorE_of hL (by kernel_rfl) (by kernel_rfl))
  have HM := Lib.hid (Doors.doorM_of hsh)
  clear hL hsh
  by_cases hbig : 1048576 < a0.size
  · clear HT HD HM
    go_enter Tryd.func3, Tryd.ntmps3
    go_wp2
    go_ret
    exact ⟨rfl, Below.refl _ _⟩
  · have hs : a0.size ≤ 1048576 := by omega
    have C1 := Lib.hid (fun w => ReadPols.specReadPolicy_any a0 w hs)
    have C2 := Lib.hid (fun w' (h : Below w.heap.size w w') => ReadPols.implReadPolicy_any a0 w.heap.size w' hs (HT.out.below h) (HD.out.below h) (HM.out.below h))
    clear hbig HT HD HM
    go_enter Tryd.func3, Tryd.ntmps3
    go_wp2_with fail
    refine (C1.out _).mono ?_; rintro e w1 hr1
    have HR1 := Lib.hid hr1
    obtain ⟨a, b, c, d, f, ok, rfl, hb1, _⟩ := hr1
    have HB1 := Lib.hid hb1
    have X1 := Lib.hid (ReadPols.box5_new w1 a b c d f 23)
    clear hb1
    go_wp2_with fail
    refine (C2.out _ (bl HB1.out (b0 _ _))).mono ?_; rintro e w2 hr2
    have HE := ReadPols.pol_same HR1.out hr2
    subst HE
    obtain ⟨_, _, _, _, _, _, _, hb2, _⟩ := hr2
    have HB2 := Lib.hid (bl (bl HB1.out (b0 _ _)) hb2)
    obtain ⟨m0, m1, m2, m3, m4, m5, _⟩ := X1.out.below hb2
    clear hb2 HR1 X1
    go_wp2_with fail
    refine (ReadPols.eqPolicy_same a b c d f _).mono ?_; rintro e w3 ⟨rfl, hb3⟩
    cases ok
    all_goals
      go_wp2
      go_ret
      exact ⟨rfl, bl (bl HB2.out (b0 _ _)) hb3⟩

set_option maxRecDepth 100000 in
theorem contract (H : Type) (enc : TypeId × Value → H) (W : World) (base : Nat) (args : Array Value) (ds gs : List (DataW H)) (before : List MemPlace)
    (hval0 : ∀ (j : Nat) t v, Tryd.f3.params[j]? = some t → args[j]? = some v → Value.okWide Tryd.prog W .any base t v)
    (hW : DataW.Whole enc Tryd.prog Tryd.f3.params.toList Rows.fnExactReadPolicySpec.vars false W args.toList ds gs before) (hL : laidMetH Tryd.prog Rows.fnExactReadPolicyRow.laid W) (hsh : W.ShapedOpen Tryd.prog) :
    Calls Tryd.prog 3 args W fun e W' => ∃ v, e = .returned v ∧ Rows.fnExactReadPolicySpec.post enc Tryd.prog Tryd.f3 false true false false W args v W' := by
  have hval : ∀ (j : Nat) t v, Tryd.f3.params[j]? = some t → args[j]? = some v → Value.okWide Tryd.prog W .any base t v := hval0
  have hW' := hW
  obtain ⟨p, q, hA0, hV, rfl, hfz, hnd⟩ := hW
  have hA : DataW.TrodAll enc Tryd.prog W 0 (fun _ => true) true Tryd.f3.params.toList args.toList ds p := hA0
  rw [Tryd.params3] at hA hval
  obtain ⟨v0, vs0, d0, ds0, p0, q0, hargs, rfl, rfl, h0, r0⟩ := trodAll_cons hA
  obtain ⟨rfl, rfl, rfl⟩ := trodAll_nil r0
  obtain rfl : args = #[v0] := by cases args; simp_all
  obtain ⟨rfl, rfl⟩ := trodVars_none hV
  obtain ⟨a0, rfl, rfl, rfl, w0⟩ := open_string Tryd.underlying9 (hval 0 9 v0 rfl rfl) h0
  clear hA0 hval0
  simp only [List.append_nil] at hW'
  refine (walk a0 w0 W hL hsh).mono fun e W' ⟨he, bel⟩ => ?_
  subst he
  exact ⟨_, rfl, _, _, _, [], [], [], hW', trodAll_mk1 (shut_bool Tryd.underlying4 _), (trodAll_cons_mk (shut_string Tryd.underlying9 w0) trodAll_mk0), rfl, bel.frame _, fun h => by cases h⟩

noncomputable def laidWorld (os : Os) : World := World.laidAll Tryd.prog os Rows.fnExactReadPolicyRow.laid
theorem laid_met (os : Os) : laidMet Tryd.prog Rows.fnExactReadPolicyRow.laid ((laidWorld os).forCall (fun _ _ => 0) ⟨#[], #[.string ByteArray.empty], []⟩).memory :=
  laidMet_laidAll _ (by kernel_rfl) (by kernel_rfl)
theorem reads (os : Os) {H : Type} (enc : TypeId × Value → H) : ∃ places, DataW.whole enc Tryd.prog ((laidWorld os).forCall (fun _ _ => 0) ⟨#[], #[.string ByteArray.empty], []⟩).memory Tryd.f3.params.toList Rows.fnExactReadPolicySpec.vars false (#[.string ByteArray.empty] : Array Value).toList 8 = some ([.lit (.string [])], [], places) :=
  ⟨[], by kernel_rfl⟩
set_option maxRecDepth 100000 in
theorem lifted (os : Os) (started : os.Started) (H : Type) (enc : TypeId × Value → H) (F : Stop.Interp) :
    ReturnsInHanded {} Tryd.checked os 3 .any ((OpenSpec.ofChange Rows.fnExactReadPolicySpec).preRow enc Tryd.prog Tryd.f3 Rows.fnExactReadPolicyRow.domain false Rows.fnExactReadPolicyRow.laid) (((OpenSpec.ofChange Rows.fnExactReadPolicySpec).at F).post enc Tryd.prog Tryd.f3 false true false false) := by
  obtain ⟨places, hx⟩ := reads os enc
  refine returnsInHanded_of_row (C := Tryd.checked) (s := OpenSpec.ofChange Rows.fnExactReadPolicySpec) own started (by kernel_rfl) Tryd.func3
    (witness_row_atRef (enc := enc) (C := Tryd.checked) false (laidWorld os) #[.string ByteArray.empty] (World.laidAll_os _ _ _) (by kernel_rfl) (by kernel_rfl) (by kernel_rfl) (OpenSpec.preRow_of_cond 8 hx (by kernel_rfl) (fun k hk => by cases hk) (by kernel_rfl) (laid_met os))) ?_
  intro W base args ds gs before hval hW _ _ _ hL hsh _
  exact contract H enc W base args ds gs before hval hW hL hsh

theorem said : Rows.FnExactReadPolicySaid :=
  OpenClaim.holds_of_cond 3 Tryd.f3 rfl rfl rfl rfl rfl rfl rfl ⟨rfl, rfl, rfl, rfl, rfl⟩ rfl rfl rfl rfl rfl (by kernel_rfl) Tryd.func3 (by kernel_rfl)
    (of_decide_eq_true (by kernel_rfl)) (by unfold Func.isWrapper; first | (rw [if_pos (by decide +kernel)]; kernel_rfl) | (rw [if_neg (by decide +kernel)]; exact ⟨rfl, rfl⟩))
    (fun os started H enc _ F => by rw [OpenClaim.pre_eq_preRow]; exact lifted os started H enc F)

theorem plain (f : FuncId) (fn : Func) (hf : Tryd.pinned.checked.prog.funcNamed "loop.example/g01025/laws.FnExactReadPolicy" = some f) (hfn : Tryd.pinned.checked.prog.funcs[f]? = some fn) :
    Rows.fnExactReadPolicyCard.stood.looks = Tryd.pinned.checked.prog.looks [] ∧ ∀ (j : Nat) t, fn.params[j]? = some t → Tryd.pinned.checked.prog.wantsStandIn t = false := by
  obtain rfl : f = 3 := Option.some.inj ((show Tryd.prog.funcNamed "loop.example/g01025/laws.FnExactReadPolicy" = some 3 by kernel_rfl).symm.trans hf) |>.symm
  obtain rfl : fn = Tryd.f3 := (Option.some.inj (Tryd.func3.symm.trans hfn)).symm
  refine ⟨by kernel_rfl, fun j t ht => ?_⟩
  rw [Tryd.params3] at ht
  have hm := Array.mem_of_getElem? ht
  simp only [List.mem_toArray, List.mem_cons, List.not_mem_nil, or_false] at hm
  rcases hm with rfl
  exact (show Tryd.prog.wantsStandIn 9 = false by kernel_rfl)
theorem proved : Rows.FnExactReadPolicyCardSaid :=
  Claim7.holds_tied_plain_at .later [] _ _ _ _ said (fun _ h => by cases h) (by kernel_rfl) (fun _ h => by cases h) fnExactReadPolicy_row_tie rfl ⟨rfl, rfl⟩ (by kernel_rfl) rfl plain (by kernel_rfl)
end Go.Proofs.YtfnmomdjmhbffaaDoor.fnExactReadPolicy
