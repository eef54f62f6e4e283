/-
  Proved: the card of the law FnExactClassText: it returns true, for every input.
  Conditions: none: the given statement Rows.FnExactClassTextSaid, as it stands.
-/
import Derived.Test.YtmngljpncglchaaDoorStructs
import Derived.Test.YtmngljpncglchaaDoorCards
import Derived.Test.YtmngljpncglchaaDoorTie
import Derived.Deep.DeepHandedRow
import Derived.SevenTiedAt
import Derived.LaidMore
import Derived.WalkKit
import Derived.ProofKit
import Derived.OpenShut
import Derived.ShutString
import Derived.ChangeOld
import Derived.Below
import Derived.IntWalk
import Derived.Test.YtmngljpncglchaaDoorLaidTabs
import Derived.Test.YtmngljpncglchaaDoorClasses
import Derived.Test.YtmngljpncglchaaDoorClassTexts
import Derived.Deep.RegionHeld3
namespace Go.Proofs.YtmngljpncglchaaDoor.fnExactClassText
open Go.ChangeShapes Go.WideShapes Go.ChangeAt Go.RowKit
open Go.ChangeMaps (open_string shut_string)
set_option linter.unusedVariables false

theorem own : ownKnob Tryd.prog.godebug = none := by kernel_rfl
theorem laidOut : laidOutB Tryd.prog = true := by kernel_rfl

open Mem

set_option maxHeartbeats 1000000 in
theorem walk (a0_0 : Option Addr) (len0_0 cap0_0 : Nat) (z0_0 : List Int) (a0_1 : Option Addr) (len0_1 cap0_1 : Nat) (z0_1 : List Int) (f0_2 : Int) (w : World) (w0_0 : IsRow .i64 w a0_0 len0_0 cap0_0 z0_0) (w0_1 : IsRow .i64 w a0_1 len0_1 cap0_1 z0_1) (wf0_2 : (Lit.int .i64 f0_2).wf = true) (hL : laidMetH Tryd.prog Rows.fnExactClassTextRow.laid w) :
    Calls Tryd.prog 9 #[.agg #[.slice a0_0 len0_0 cap0_0, .slice a0_1 len0_1 cap0_1, .int .i64 f0_2]] w fun e w' => e = .returned (.bool true) ∧ Below w.heap.size w w' := by
  obtain ⟨hlen0, hxl0⟩ := row_len w0_0
  obtain ⟨hlen1, hxl1⟩ := row_len w0_1
  by_cases hbig : 1048576 < len0_0 + len0_1
  · clear w0_0 w0_1 wf0_2 hL
    go_enter Tryd.func9, Tryd.ntmps9
    go_wp2_with fail
    refine (Classes.szClass_no _ _ _ _ _ _ _ _ _ hlen0 hlen1 (by omega) (by omega) (by omega)).mono ?_; rintro e w1 ⟨rfl, hb1⟩
    go_wp2
    go_ret
    exact ⟨rfl, bl (b0 _ _) hb1⟩
  have HT := Lib.hid (LaidTabs.tab_of hL (by kernel_rfl))
  clear hL
  have ha := Lib.hid (arg_of_row w0_0 (by omega))
  have hb := Lib.hid (arg_of_row w0_1 (by omega))
  have hxn : (z0_0.take len0_0).length ≤ 1048576 := by omega
  have hyn : (z0_1.take len0_1).length ≤ 1048576 := by omega
  have HB0 := Lib.hid (b0 w)
  have HX0 := Lib.hid (box3_new w (.slice a0_0 len0_0 cap0_0) (.slice a0_1 len0_1 cap0_1) (.int .i64 f0_2))
  clear w0_0 w0_1 wf0_2 hxl0 hxl1
  generalize z0_0.take len0_0 = xs at *
  generalize z0_1.take len0_1 = ys at *
  go_enter Tryd.func9, Tryd.ntmps9
  go_wp2_with fail
  refine (Classes.szClass_yes _ _ _ _ _ _ _ _ _ hlen0 hlen1 (by omega) (by omega)).mono ?_; rintro e w1 ⟨rfl, hb1⟩
  have HC1 := Lib.hid (bl (HB0.out _) hb1)
  obtain ⟨x1a, x1b, x1c, x1d⟩ := (HX0.out _).below hb1
  go_wp2_with fail
  refine (Classes.toClass_any _ _ _ xs ys _ (ha.out.below HC1.out) (hb.out.below HC1.out) (by omega) (by omega)).mono ?_; rintro e w2 ⟨u2, t2, rfl, hs2, ht2, hb2⟩
  obtain ⟨x2a, x2b, x2c, x2d⟩ := Box3.below ⟨x1a, x1b, x1c, x1d⟩ hb2
  have HC2 := Lib.hid (bl HC1.out hb2)
  have hr2 := Lib.hid hs2.rd
  have hq2 := Lib.hid ht2.rd
  clear hs2 ht2
  go_wp2_with fail
  refine (ClassTexts.specClassText_any _ _ _ xs ys _ hr2.out hq2.out).mono ?_; rintro e w3 ⟨rfl, hb3⟩
  obtain ⟨x3a, x3b, x3c, x3d⟩ := Box3.below ⟨x2a, x2b, x2c, x2d⟩ hb3
  have HC3 := Lib.hid (bl HC2.out hb3)
  go_wp2_with fail
  refine (Classes.toClass_any _ _ _ xs ys _ (ha.out.below HC3.out) (hb.out.below HC3.out) (by omega) (by omega)).mono ?_; rintro e w4 ⟨u4, t4, rfl, hs4, ht4, hb4⟩
  obtain ⟨ua, uc, rfl⟩ := sl_shape hs4
  obtain ⟨ta, tc, rfl⟩ := sl_shape ht4
  obtain ⟨x4a, x4b, x4c, x4d⟩ := Box3.below ⟨x3a, x3b, x3c, x3d⟩ hb4
  have HC4 := Lib.hid (bl HC3.out hb4)
  have hr4 := Lib.hid (fun o => hs4.rd.below (b0 w4 o))
  have hq4 := Lib.hid (fun o => ht4.rd.below (b0 w4 o))
  have HX4 := Lib.hid (box3_new w4 (.slice ua xs.length uc) (.slice ta ys.length tc) (.int .i64 f0_2))
  have HXw := Lib.hid (fun o => Box3.below ⟨x4a, x4b, x4c, x4d⟩ (b0 w4 o))
  clear hs4 ht4
  go_wp2_with fail
  refine (ClassTexts.implClassText_any _ _ _ xs ys w.heap.size _ (HT.out.below (bl HC4.out (b0 _ _))) (hr4.out _) (hq4.out _)).mono ?_; rintro e w5 ⟨rfl, hb5⟩
  obtain ⟨x5a, x5b, x5c, x5d⟩ := (HXw.out _).below hb5
  obtain ⟨y5a, y5b, y5c, y5d⟩ := (HX4.out _).below hb5
  have HC5 := Lib.hid (bl (bl HC4.out (b0 _ _)) hb5)
  have hr5 := Lib.hid ((hr4.out _).below hb5)
  have hq5 := Lib.hid ((hq4.out _).below hb5)
  clear hr4 hq4
  go_wp2_with fail
  go_region_held3 (fun w' => w'.cell? ⟨w.heap.size, 0, none⟩ = some (.slice a0_0 len0_0 cap0_0) ∧ w'.cell? ⟨w.heap.size, 1, none⟩ = some (.slice a0_1 len0_1 cap0_1) ∧ w'.cell? ⟨w.heap.size, 2, none⟩ = some (.int .i64 f0_2) ∧ w'.cell? ⟨w4.heap.size, 0, none⟩ = some (.slice ua xs.length uc) ∧ w'.cell? ⟨w4.heap.size, 1, none⟩ = some (.slice ta ys.length tc) ∧ w'.cell? ⟨w4.heap.size, 2, none⟩ = some (.int .i64 f0_2)) (go_keep)
    (first | (go_at_call 39; refine (Classes.toClass_any _ _ _ xs ys _ (ha.out.below HC5.out.drew) (hb.out.below HC5.out.drew) (by omega) (by omega)).mono ?_; rintro e w6 ⟨u6, t6, rfl, hs6, ht6, hb6d⟩; have hb6 := undrew hb6d; have hr6 := Lib.hid (hr5.out.below hb6); have hk6 := Lib.hid (hq5.out.below hb6); have hq6 := Lib.hid hs6.rd; have hp6 := Lib.hid ht6.rd; have HC6 := Lib.hid (bl HC5.out hb6); obtain ⟨y6a, y6b, y6c, y6d⟩ := Box3.below ⟨y5a, y5b, y5c, y5d⟩ hb6; obtain ⟨x6a, x6b, x6c, x6d⟩ := Box3.below ⟨x5a, x5b, x5c, x5d⟩ hb6) | (go_at_call 41; refine (Classes.eqClass_yes _ _ _ _ _ xs ys _ hr6.out hk6.out hq6.out hp6.out).mono ?_; rintro e w7 ⟨rfl, hb7⟩; obtain ⟨y7a, y7b, y7c, y7d⟩ := Box3.below ⟨y6a, y6b, y6c, y6d⟩ hb7; obtain ⟨x7a, x7b, x7c, x7d⟩ := Box3.below ⟨x6a, x6b, x6c, x6d⟩ hb7))
  go_wp2
  go_ret
  exact ⟨rfl, bl HC6.out hb7⟩

set_option maxRecDepth 100000 in
theorem contract (H : Type) (enc : TypeId × Value → H) (W : World) (base : Nat) (args : Array Value) (ds gs : List (DataW H)) (before : List MemPlace)
    (hval0 : ∀ (j : Nat) t v, Tryd.f9.params[j]? = some t → args[j]? = some v → Value.okWide Tryd.prog W .any base t v)
    (hW : DataW.Whole enc Tryd.prog Tryd.f9.params.toList Rows.fnExactClassTextSpec.vars false W args.toList ds gs before) (hL : laidMetH Tryd.prog Rows.fnExactClassTextRow.laid W) :
    Calls Tryd.prog 9 args W fun e W' => ∃ v, e = .returned v ∧ Rows.fnExactClassTextSpec.post enc Tryd.prog Tryd.f9 false true false false W args v W' := by
  have hval : ∀ (j : Nat) t v, Tryd.f9.params[j]? = some t → args[j]? = some v → Value.okWide Tryd.prog W .any base t v := hval0
  have hW' := hW
  obtain ⟨p, q, hA0, hV, rfl, hfz, hnd⟩ := hW
  have hA : DataW.TrodAll enc Tryd.prog W 0 (fun _ => true) true Tryd.f9.params.toList args.toList ds p := hA0
  rw [Tryd.params9] at hA hval
  obtain ⟨v0, vs0, d0, ds0, p0, q0, hargs, rfl, rfl, h0, r0⟩ := trodAll_cons hA
  obtain ⟨rfl, rfl, rfl⟩ := trodAll_nil r0
  obtain rfl : args = #[v0] := by cases args; simp_all
  obtain ⟨rfl, rfl⟩ := trodVars_none hV
  have k0 := h0
  have lt0 : ∀ x ∈ p0, x.block < W.heap.size := by obtain ⟨m, hm⟩ := k0; exact DataW.trod_lt m _ _ _ hm
  obtain ⟨c0_0, c0_1, c0_2, y0_0, y0_1, y0_2, m0, hag0, _, _, hy0_0, hy0_1, hy0_2⟩ := Go.Joins.open_agg3 Tryd.underlying52 (by kernel_rfl) (by kernel_rfl) (hval 0 52 v0 rfl rfl) h0
  obtain ⟨a0_0, len0_0, cap0_0, z0_0, e0_0, w0_0⟩ : ∃ a l c zs, c0_0 = .slice a l c ∧ IsRow .i64 W a l c zs := by
    rcases open_ints Tryd.underlying30 Tryd.underlying2 (by kernel_rfl) hy0_0 with ⟨hcs, _⟩ | ⟨x, l, c, zs, hcs, _, hl, hm, hz, _, hcell, hwz⟩
    · simp at hcs
      exact ⟨none, 0, 0, [], hcs, .inl ⟨rfl, rfl, rfl, rfl⟩⟩
    · simp at hcs
      exact ⟨some x, l, c, zs, hcs, .inr ⟨_, rfl, hl, hm, by simpa using hz, hcell, hwz⟩⟩
  subst e0_0
  obtain ⟨a0_1, len0_1, cap0_1, z0_1, e0_1, w0_1⟩ : ∃ a l c zs, c0_1 = .slice a l c ∧ IsRow .i64 W a l c zs := by
    rcases open_ints Tryd.underlying30 Tryd.underlying2 (by kernel_rfl) hy0_1 with ⟨hcs, _⟩ | ⟨x, l, c, zs, hcs, _, hl, hm, hz, _, hcell, hwz⟩
    · simp at hcs
      exact ⟨none, 0, 0, [], hcs, .inl ⟨rfl, rfl, rfl, rfl⟩⟩
    · simp at hcs
      exact ⟨some x, l, c, zs, hcs, .inr ⟨_, rfl, hl, hm, by simpa using hz, hcell, hwz⟩⟩
  subst e0_1
  obtain ⟨f0_2, e0_2, _, wf0_2⟩ := DataW.trod_int Tryd.underlying2 hy0_2
  simp at e0_2
  subst e0_2
  subst hag0
  clear hA0 hval0
  refine (walk a0_0 len0_0 cap0_0 z0_0 a0_1 len0_1 cap0_1 z0_1 f0_2 W w0_0 w0_1 wf0_2 hL).mono fun e W' ⟨he, bel⟩ => ?_
  subst he
  exact ⟨_, rfl, _, _, _, [], _, [], hW', trodAll_mk1 (shut_bool Tryd.underlying4 _), (trodAll_cons_mk (Below.trod laidOut (by kernel_rfl) (of_decide_eq_true (by kernel_rfl)) k0 bel lt0) trodAll_mk0), rfl, bel.frame _, fun h => by cases h⟩

noncomputable def laidWorld (os : Os) : World := World.doorLaid Tryd.prog 4000 os
theorem laid_met (os : Os) : laidMet Tryd.prog Rows.fnExactClassTextRow.laid ((laidWorld os).forCall (fun _ _ => 0) ⟨#[], #[.agg #[.slice none 0 0, .slice none 0 0, .int .i64 0]], []⟩).memory :=
  laidMet_of_run' 16 (by kernel_rfl) (by kernel_rfl)
theorem reads (os : Os) {H : Type} (enc : TypeId × Value → H) : ∃ places, DataW.whole enc Tryd.prog ((laidWorld os).forCall (fun _ _ => 0) ⟨#[], #[.agg #[.slice none 0 0, .slice none 0 0, .int .i64 0]], []⟩).memory Tryd.f9.params.toList Rows.fnExactClassTextSpec.vars false (#[.agg #[.slice none 0 0, .slice none 0 0, .int .i64 0]] : Array Value).toList 8 = some ([.agg [.nil, .nil, .lit (.int .i64 0)]], [], places) :=
  ⟨[], by kernel_rfl⟩
set_option maxRecDepth 100000 in
theorem lifted (os : Os) (started : os.Started) (H : Type) (enc : TypeId × Value → H) (F : Stop.Interp) :
    ReturnsInHanded {} Tryd.checked os 9 .any ((OpenSpec.ofChange Rows.fnExactClassTextSpec).preRow enc Tryd.prog Tryd.f9 Rows.fnExactClassTextRow.domain false Rows.fnExactClassTextRow.laid) (((OpenSpec.ofChange Rows.fnExactClassTextSpec).at F).post enc Tryd.prog Tryd.f9 false true false false) := by
  obtain ⟨places, hx⟩ := reads os enc
  refine returnsInHanded_of_row (C := Tryd.checked) (s := OpenSpec.ofChange Rows.fnExactClassTextSpec) own started (by kernel_rfl) Tryd.func9
    (witness_row_at (enc := enc) (C := Tryd.checked) false (laidWorld os) #[.agg #[.slice none 0 0, .slice none 0 0, .int .i64 0]] rfl (by kernel_rfl) (by kernel_rfl) (by kernel_rfl) (OpenSpec.preRow_of_cond 8 hx (by kernel_rfl) (fun k hk => by cases hk) (by kernel_rfl) (laid_met os))) ?_
  intro W base args ds gs before hval hW _ _ _ hL _ _
  exact contract H enc W base args ds gs before hval hW hL

theorem said : Rows.FnExactClassTextSaid :=
  OpenClaim.holds_of_cond 9 Tryd.f9 rfl rfl rfl rfl rfl rfl rfl ⟨rfl, rfl, rfl, rfl, rfl⟩ rfl rfl rfl rfl rfl (by kernel_rfl) Tryd.func9 (by kernel_rfl)
    (of_decide_eq_true (by kernel_rfl)) (by unfold Func.isWrapper; first | (rw [if_pos (by decide +kernel)]; kernel_rfl) | (rw [if_neg (by decide +kernel)]; exact ⟨rfl, rfl⟩))
    (fun os started H enc _ F => by rw [OpenClaim.pre_eq_preRow]; exact lifted os started H enc F)

theorem plain (f : FuncId) (fn : Func) (hf : Tryd.pinned.checked.prog.funcNamed "loop.example/g01025/laws.FnExactClassText" = some f) (hfn : Tryd.pinned.checked.prog.funcs[f]? = some fn) :
    Rows.fnExactClassTextCard.stood.looks = Tryd.pinned.checked.prog.looks [] ∧ ∀ (j : Nat) t, fn.params[j]? = some t → Tryd.pinned.checked.prog.wantsStandIn t = false := by
  obtain rfl : f = 9 := Option.some.inj ((show Tryd.prog.funcNamed "loop.example/g01025/laws.FnExactClassText" = some 9 by kernel_rfl).symm.trans hf) |>.symm
  obtain rfl : fn = Tryd.f9 := (Option.some.inj (Tryd.func9.symm.trans hfn)).symm
  refine ⟨by kernel_rfl, fun j t ht => ?_⟩
  rw [Tryd.params9] at ht
  have hm := Array.mem_of_getElem? ht
  simp only [List.mem_toArray, List.mem_cons, List.not_mem_nil, or_false] at hm
  rcases hm with rfl
  exact (show Tryd.prog.wantsStandIn 52 = false by kernel_rfl)
theorem proved : Rows.FnExactClassTextCardSaid :=
  Claim7.holds_tied_plain_at .later [] _ _ _ _ said (fun _ h => by cases h) (by kernel_rfl) (fun _ h => by cases h) fnExactClassText_row_tie rfl ⟨rfl, rfl⟩ (by kernel_rfl) rfl plain (by kernel_rfl)
end Go.Proofs.YtmngljpncglchaaDoor.fnExactClassText
