/-
  Proved: the card of the law FnExactSickText: it returns true, for every input.
  Conditions: none: the given statement Rows.FnExactSickTextSaid, as it stands.
-/
import Derived.Test.YtmngljpncglchaaDoorStructs
import Derived.Test.YtmngljpncglchaaDoorCards
import Derived.Test.YtmngljpncglchaaDoorTie
import Derived.Deep.DeepHandedRow
import Derived.SevenTiedAt
import Derived.LaidMore
import Derived.WalkKit
import Derived.ProofKit
import Derived.OpenShut
import Derived.ShutString
import Derived.ChangeOld
import Derived.Below
import Derived.IntWalk
import Derived.Test.YtmngljpncglchaaDoorLaidTabs
import Derived.Test.YtmngljpncglchaaDoorTables
import Derived.Test.YtmngljpncglchaaDoorSickTexts
import Derived.Deep.RegionHeld3
namespace Go.Proofs.YtmngljpncglchaaDoor.fnExactSickText
open Go.ChangeShapes Go.WideShapes Go.ChangeAt Go.RowKit
open Go.ChangeMaps (open_string shut_string)
set_option linter.unusedVariables false

theorem own : ownKnob Tryd.prog.godebug = none := by kernel_rfl
theorem laidOut : laidOutB Tryd.prog = true := by kernel_rfl

open Mem

set_option maxHeartbeats 1000000 in
theorem walk (f0_0 : Int) (a0_1 : Option Addr) (len0_1 cap0_1 : Nat) (z0_1 : List Int) (w : World) (wf0_0 : (Lit.int .i64 f0_0).wf = true) (w0_1 : IsRow .i64 w a0_1 len0_1 cap0_1 z0_1) (hL : laidMetH Tryd.prog Rows.fnExactSickTextRow.laid w) :
    Calls Tryd.prog 8 #[.agg #[.int .i64 f0_0, .slice a0_1 len0_1 cap0_1]] w fun e w' => e = .returned (.bool true) ∧ Below w.heap.size w w' := by
  obtain ⟨hlen, hxl⟩ := row_len w0_1
  by_cases hbig : 1048576 < len0_1
  · clear w0_1 wf0_0 hL
    go_enter Tryd.func8, Tryd.ntmps8
    go_wp2_with fail
    refine (Tables.szSickTable_no _ _ _ _ _ _ hlen (by omega) (by omega) (by omega)).mono ?_; rintro e w1 ⟨rfl, hb1⟩
    go_wp2
    go_ret
    exact ⟨rfl, bl (b0 _ _) hb1⟩
  have ha := Lib.hid (arg_of_row w0_1 (by omega))
  have hxn : (z0_1.take len0_1).length ≤ 1048576 := by omega
  have hwf := Lib.hid (fun i hi => row_wf w0_1 i hi)
  have hbf := bounds_i64 wf0_0
  have HB0 := Lib.hid (b0 w)
  have HX0 := Lib.hid (box2_new w (.int .i64 f0_0) (.slice a0_1 len0_1 cap0_1))
  clear w0_1 wf0_0 hxl
  generalize z0_1.take len0_1 = xs at *
  have HT := Lib.hid (LaidTabs.tab_of hL (by kernel_rfl))
  clear hL
  go_enter Tryd.func8, Tryd.ntmps8
  go_wp2_with fail
  refine (Tables.szSickTable_yes _ _ _ _ _ _ hlen (by omega) (by omega)).mono ?_; rintro e w1 ⟨rfl, hb1⟩
  have HC1 := Lib.hid (bl (HB0.out _) hb1)
  obtain ⟨x1a, x1b, x1c⟩ := (HX0.out _).below hb1
  go_wp2_with fail
  refine (Tables.toSickTable_any _ _ xs _ (ha.out.below HC1.out) (by omega)).mono ?_; rintro e w2 ⟨u2, rfl, hs2, hb2⟩
  obtain ⟨x2a, x2b, x2c⟩ := Box2.below ⟨x1a, x1b, x1c⟩ hb2
  have HC2 := Lib.hid (bl HC1.out hb2)
  have hr2 := Lib.hid hs2.rd
  go_wp2_with fail
  refine (SickTexts.specSickText_any _ _ xs _ hr2.out).mono ?_; rintro e w3 ⟨rfl, hb3⟩
  obtain ⟨x3a, x3b, x3c⟩ := Box2.below ⟨x2a, x2b, x2c⟩ hb3
  have HC3 := Lib.hid (bl HC2.out hb3)
  go_wp2_with fail
  refine (Tables.toSickTable_any _ _ xs _ (ha.out.below HC3.out) (by omega)).mono ?_; rintro e w4 ⟨u4, rfl, hs4, hb4⟩
  obtain ⟨ua, uc, rfl⟩ := sl_shape hs4
  obtain ⟨x4a, x4b, x4c⟩ := Box2.below ⟨x3a, x3b, x3c⟩ hb4
  have HC4 := Lib.hid (bl HC3.out hb4)
  have hr4 := Lib.hid (fun o => hs4.rd.below (b0 w4 o))
  have HX4 := Lib.hid (box2_new w4 (.int .i64 f0_0) (.slice ua xs.length uc))
  have HXw := Lib.hid (fun o => Box2.below ⟨x4a, x4b, x4c⟩ (b0 w4 o))
  clear hs2 hs4
  go_wp2_with fail
  refine (SickTexts.implSickText_any _ _ xs w.heap.size _ (HT.out.below (bl HC4.out (b0 _ _))) (hr4.out _)).mono ?_; rintro e w5 ⟨rfl, hb5⟩
  obtain ⟨x5a, x5b, x5c⟩ := (HXw.out _).below hb5
  obtain ⟨y5a, y5b, y5c⟩ := (HX4.out _).below hb5
  have HC5 := Lib.hid (bl (bl HC4.out (b0 _ _)) hb5)
  have hr5 := Lib.hid ((hr4.out _).below hb5)
  clear hr4
  go_wp2_with fail
  go_region_held3 (fun w' => w'.cell? ⟨w.heap.size, 0, none⟩ = some (.int .i64 f0_0) ∧ w'.cell? ⟨w.heap.size, 1, none⟩ = some (.slice a0_1 len0_1 cap0_1) ∧ w'.cell? ⟨w4.heap.size, 0, none⟩ = some (.int .i64 f0_0) ∧ w'.cell? ⟨w4.heap.size, 1, none⟩ = some (.slice ua xs.length uc)) (go_keep)
    (first | (go_at_call 34; refine (Tables.toSickTable_any _ _ xs _ (ha.out.below HC5.out.drew) (by omega)).mono ?_; rintro e w6 ⟨u6, rfl, hs6, hb6d⟩; have hb6 := undrew hb6d; have hr6 := Lib.hid (hr5.out.below hb6); have hq6 := Lib.hid hs6.rd; have HC6 := Lib.hid (bl HC5.out hb6); obtain ⟨y6a, y6b, y6c⟩ := Box2.below ⟨y5a, y5b, y5c⟩ hb6; obtain ⟨x6a, x6b, x6c⟩ := Box2.below ⟨x5a, x5b, x5c⟩ hb6) | (go_at_call 36; refine (Tables.eqSickTable_yes _ _ _ xs _ hr6.out hq6.out).mono ?_; rintro e w7 ⟨rfl, hb7⟩; obtain ⟨y7a, y7b, y7c⟩ := Box2.below ⟨y6a, y6b, y6c⟩ hb7; obtain ⟨x7a, x7b, x7c⟩ := Box2.below ⟨x6a, x6b, x6c⟩ hb7))
  go_wp2
  go_ret
  exact ⟨rfl, bl HC6.out hb7⟩

set_option maxRecDepth 100000 in
theorem contract (H : Type) (enc : TypeId × Value → H) (W : World) (base : Nat) (args : Array Value) (ds gs : List (DataW H)) (before : List MemPlace)
    (hval0 : ∀ (j : Nat) t v, Tryd.f8.params[j]? = some t → args[j]? = some v → Value.okWide Tryd.prog W .any base t v)
    (hW : DataW.Whole enc Tryd.prog Tryd.f8.params.toList Rows.fnExactSickTextSpec.vars false W args.toList ds gs before) (hL : laidMetH Tryd.prog Rows.fnExactSickTextRow.laid W) :
    Calls Tryd.prog 8 args W fun e W' => ∃ v, e = .returned v ∧ Rows.fnExactSickTextSpec.post enc Tryd.prog Tryd.f8 false true false false W args v W' := by
  have hval : ∀ (j : Nat) t v, Tryd.f8.params[j]? = some t → args[j]? = some v → Value.okWide Tryd.prog W .any base t v := hval0
  have hW' := hW
  obtain ⟨p, q, hA0, hV, rfl, hfz, hnd⟩ := hW
  have hA : DataW.TrodAll enc Tryd.prog W 0 (fun _ => true) true Tryd.f8.params.toList args.toList ds p := hA0
  rw [Tryd.params8] at hA hval
  obtain ⟨v0, vs0, d0, ds0, p0, q0, hargs, rfl, rfl, h0, r0⟩ := trodAll_cons hA
  obtain ⟨rfl, rfl, rfl⟩ := trodAll_nil r0
  obtain rfl : args = #[v0] := by cases args; simp_all
  obtain ⟨rfl, rfl⟩ := trodVars_none hV
  have k0 := h0
  have lt0 : ∀ x ∈ p0, x.block < W.heap.size := by obtain ⟨m, hm⟩ := k0; exact DataW.trod_lt m _ _ _ hm
  obtain ⟨c0_0, c0_1, y0_0, y0_1, m0, hag0, _, _, hy0_0, hy0_1⟩ := Go.Joins.open_agg2 Tryd.underlying44 (by kernel_rfl) (by kernel_rfl) (hval 0 44 v0 rfl rfl) h0
  obtain ⟨f0_0, e0_0, _, wf0_0⟩ := DataW.trod_int Tryd.underlying2 hy0_0
  simp at e0_0
  subst e0_0
  obtain ⟨a0_1, len0_1, cap0_1, z0_1, e0_1, w0_1⟩ : ∃ a l c zs, c0_1 = .slice a l c ∧ IsRow .i64 W a l c zs := by
    rcases open_ints Tryd.underlying30 Tryd.underlying2 (by kernel_rfl) hy0_1 with ⟨hcs, _⟩ | ⟨x, l, c, zs, hcs, _, hl, hm, hz, _, hcell, hwz⟩
    · simp at hcs
      exact ⟨none, 0, 0, [], hcs, .inl ⟨rfl, rfl, rfl, rfl⟩⟩
    · simp at hcs
      exact ⟨some x, l, c, zs, hcs, .inr ⟨_, rfl, hl, hm, by simpa using hz, hcell, hwz⟩⟩
  subst e0_1
  subst hag0
  clear hA0 hval0
  refine (walk f0_0 a0_1 len0_1 cap0_1 z0_1 W wf0_0 w0_1 hL).mono fun e W' ⟨he, bel⟩ => ?_
  subst he
  exact ⟨_, rfl, _, _, _, [], _, [], hW', trodAll_mk1 (shut_bool Tryd.underlying4 _), (trodAll_cons_mk (Below.trod laidOut (by kernel_rfl) (of_decide_eq_true (by kernel_rfl)) k0 bel lt0) trodAll_mk0), rfl, bel.frame _, fun h => by cases h⟩

noncomputable def laidWorld (os : Os) : World := World.doorLaid Tryd.prog 4000 os
theorem laid_met (os : Os) : laidMet Tryd.prog Rows.fnExactSickTextRow.laid ((laidWorld os).forCall (fun _ _ => 0) ⟨#[], #[.agg #[.int .i64 0, .slice none 0 0]], []⟩).memory :=
  laidMet_of_run' 16 (by kernel_rfl) (by kernel_rfl)
theorem reads (os : Os) {H : Type} (enc : TypeId × Value → H) : ∃ places, DataW.whole enc Tryd.prog ((laidWorld os).forCall (fun _ _ => 0) ⟨#[], #[.agg #[.int .i64 0, .slice none 0 0]], []⟩).memory Tryd.f8.params.toList Rows.fnExactSickTextSpec.vars false (#[.agg #[.int .i64 0, .slice none 0 0]] : Array Value).toList 8 = some ([.agg [.lit (.int .i64 0), .nil]], [], places) :=
  ⟨[], by kernel_rfl⟩
set_option maxRecDepth 100000 in
theorem lifted (os : Os) (started : os.Started) (H : Type) (enc : TypeId × Value → H) (F : Stop.Interp) :
    ReturnsInHanded {} Tryd.checked os 8 .any ((OpenSpec.ofChange Rows.fnExactSickTextSpec).preRow enc Tryd.prog Tryd.f8 Rows.fnExactSickTextRow.domain false Rows.fnExactSickTextRow.laid) (((OpenSpec.ofChange Rows.fnExactSickTextSpec).at F).post enc Tryd.prog Tryd.f8 false true false false) := by
  obtain ⟨places, hx⟩ := reads os enc
  refine returnsInHanded_of_row (C := Tryd.checked) (s := OpenSpec.ofChange Rows.fnExactSickTextSpec) own started (by kernel_rfl) Tryd.func8
    (witness_row_at (enc := enc) (C := Tryd.checked) false (laidWorld os) #[.agg #[.int .i64 0, .slice none 0 0]] rfl (by kernel_rfl) (by kernel_rfl) (by kernel_rfl) (OpenSpec.preRow_of_cond 8 hx (by kernel_rfl) (fun k hk => by cases hk) (by kernel_rfl) (laid_met os))) ?_
  intro W base args ds gs before hval hW _ _ _ hL _ _
  exact contract H enc W base args ds gs before hval hW hL

theorem said : Rows.FnExactSickTextSaid :=
  OpenClaim.holds_of_cond 8 Tryd.f8 rfl rfl rfl rfl rfl rfl rfl ⟨rfl, rfl, rfl, rfl, rfl⟩ rfl rfl rfl rfl rfl (by kernel_rfl) Tryd.func8 (by kernel_rfl)
    (of_decide_eq_true (by kernel_rfl)) (by unfold Func.isWrapper; first | (rw [if_pos (by decide +kernel)]; kernel_rfl) | (rw [if_neg (by decide +kernel)]; exact ⟨rfl, rfl⟩))
    (fun os started H enc _ F => by rw [OpenClaim.pre_eq_preRow]; exact lifted os started H enc F)

theorem plain (f : FuncId) (fn : Func) (hf : Tryd.pinned.checked.prog.funcNamed "loop.example/g01025/laws.FnExactSickText" = some f) (hfn : Tryd.pinned.checked.prog.funcs[f]? = some fn) :
    Rows.fnExactSickTextCard.stood.looks = Tryd.pinned.checked.prog.looks [] ∧ ∀ (j : Nat) t, fn.params[j]? = some t → Tryd.pinned.checked.prog.wantsStandIn t = false := by
  obtain rfl : f = 8 := Option.some.inj ((show Tryd.prog.funcNamed "loop.example/g01025/laws.FnExactSickText" = some 8 by kernel_rfl).symm.trans hf) |>.symm
  obtain rfl : fn = Tryd.f8 := (Option.some.inj (Tryd.func8.symm.trans hfn)).symm
  refine ⟨by kernel_rfl, fun j t ht => ?_⟩
  rw [Tryd.params8] at ht
  have hm := Array.mem_of_getElem? ht
  simp only [List.mem_toArray, List.mem_cons, List.not_mem_nil, or_false] at hm
  rcases hm with rfl
  exact (show Tryd.prog.wantsStandIn 44 = false by kernel_rfl)
theorem proved : Rows.FnExactSickTextCardSaid :=
  Claim7.holds_tied_plain_at .later [] _ _ _ _ said (fun _ h => by cases h) (by kernel_rfl) (fun _ h => by cases h) fnExactSickText_row_tie rfl ⟨rfl, rfl⟩ (by kernel_rfl) rfl plain (by kernel_rfl)
end Go.Proofs.YtmngljpncglchaaDoor.fnExactSickText
