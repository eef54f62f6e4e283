/-
  Proved: the card of the law FnExactReadTable: it returns true, for every input.
  Conditions: none: the given statement Rows.FnExactReadTableSaid, as it stands.
-/
import Derived.Test.YtmngljpncglchaaDoorCards
import Derived.Test.YtmngljpncglchaaDoorTie
import Derived.Deep.DeepHandedRow
import Derived.SevenTiedAt
import Derived.LaidMore
import Derived.Lay
import Derived.Deep.DeepWitnessRowRef
import Derived.WalkKit
import Derived.ProofKit
import Derived.OpenShut
import Derived.ShutString
import Derived.ChangeOld
import Derived.Below
import Derived.IntWalk
import Derived.Test.YtmngljpncglchaaDoorLaidTabs
import Derived.Test.YtmngljpncglchaaDoorTabReads
import Derived.Test.YtmngljpncglchaaDoorMarks
namespace Go.Proofs.YtmngljpncglchaaDoor.fnExactReadTable
open Go.ChangeShapes Go.WideShapes Go.ChangeAt Go.RowKit
open Go.ChangeMaps (open_string shut_string)
set_option linter.unusedVariables false

theorem own : ownKnob Tryd.prog.godebug = none := by kernel_rfl

open Mem

set_option maxHeartbeats 1000000 in
-- the witness lies in World.laidAll
theorem walk (a0 : ByteArray) (w0 : a0.size ≤ 9223372036854775807) (w : World) (hL : laidMetH Tryd.prog Rows.fnExactReadTableRow.laid w) (hsh : w.ShapedOpen Tryd.prog) :
    Calls Tryd.prog 13 #[.string a0] w fun e w' => e = .returned (.bool true) ∧ Below w.heap.size w w' := by
  have HT := Lib.hid (LaidTabs.tab_of hL (by kernel_rfl))
  have HD := Lib.hid (Doors.doorE_of hL (by kernel_rfl) (by kernel_rfl))
  have HM := Lib.hid (Doors.doorM_of hsh)
  clear hL hsh
  by_cases hbig : 1048576 < a0.size
  · clear HT HD HM
    go_enter Tryd.func13, Tryd.ntmps13
    go_wp2
    go_ret
    exact ⟨rfl, Below.refl _ _⟩
  · have hs : a0.size ≤ 1048576 := by omega
    have C1 := Lib.hid (fun w => TabReads.specReadTable_any a0 w hs)
    have C2 := Lib.hid (fun w' (h : Below w.heap.size w w') => TabReads.implReadTable_any a0 w.heap.size w' hs (HT.out.below h) (HD.out.below h) (HM.out.below h))
    have hlen := TabPlain.tX_len TabPlain.fine_lt a0.data.toList
    unfold TabPlain.TabRes at C1 C2
    clear hbig HT HD HM
    generalize TabPlain.tF LifeTables.ltB a0.data.toList = f at *
    generalize TabPlain.tX LifeTables.ltB a0.data.toList = xs at *
    generalize TabPlain.tB LifeTables.ltB a0.data.toList = bo at *
    cases bo
    all_goals
      go_enter Tryd.func13, Tryd.ntmps13
      go_wp2_with fail
      refine (C1.out _).mono ?_; rintro e w1 ⟨v1, rfl, hs1, hb1⟩
      obtain ⟨a1, c1, rfl⟩ := sl_shape hs1
      have HB1 := Lib.hid hb1
      have OW1 := Lib.hid (Marks.sl_own hs1)
      have R1 := Lib.hid (fun o => hs1.rd.below (b0 w1 o))
      have X1 := Lib.hid (box2_new w1 (.int .i64 f) (.slice a1 xs.length c1))
      clear hs1 hb1
      go_wp2_with fail
      refine (C2.out _ (bl HB1.out (b0 _ _))).mono ?_; rintro e w2 ⟨v2, rfl, hs2, hb2⟩
      obtain ⟨a2, c2, rfl⟩ := sl_shape hs2
      have HB2 := Lib.hid (bl (bl HB1.out (b0 _ _)) hb2)
      have R2 := Lib.hid ((R1.out _).below hb2)
      have X2 := Lib.hid ((X1.out _).below hb2)
      have HS2 := Lib.hid (sl_mono (B' := w1.heap.size + 1) (by simp) hs2)
      have hz2 : w1.heap.size + 1 ≤ w2.heap.size := by have := hb2.size; simp at this; omega
      have G2 := Lib.hid (box2_new w2 (.int .i64 f) (.slice a2 xs.length c2))
      obtain ⟨x2a, x2b, x2c⟩ := X2.out
      clear hs2 hb2 R1 X1
      go_wp2_with fail
      refine (Tables.eqLifeTable_yes _ _ _ xs _ (HS2.out.rd.below (b0 _ _)) (R2.out.below (b0 _ _))).mono ?_; rintro e w3 ⟨rfl, hb3⟩
      have HB3 := Lib.hid (bl (bl HB2.out (b0 _ _)) hb3)
      have R3 := Lib.hid ((R2.out.below (b0 w2 _)).below hb3)
      have X3 := Lib.hid ((X2.out.below (b0 w2 _)).below hb3)
      have G3 := Lib.hid ((G2.out _).below hb3)
      have HS3 := Lib.hid ((HS2.out.below (b0 w2 _)).below hb3)
      have hz3 : w2.heap.size < w3.heap.size := by have := hb3.size; simp at this; omega
      obtain ⟨g3a, g3b, g3c⟩ := G3.out
      clear hb3 x2a x2b x2c
      go_wp2_with fail
      refine (Marks.markLifeTable_any f _ xs (w1.heap.size + 1) 1 _ HS3.out (by omega) (by omega) (by omega)).mono ?_; rintro e w4 ⟨rfl, hs4, hg4⟩
      have hbel4 := Marks.grown_bel (by omega) HS3.out hg4
      have HB4 := Lib.hid (HB3.out.trans (hbel4.mono (by have := HB1.out.size; omega)))
      have own2 := Marks.sl_own HS2.out
      have G4 := Lib.hid (Marks.box_grown G3.out hg4 (fun e => by have := (own2 _ e).2; omega))
      have X4 := Lib.hid (Marks.box_grown X3.out hg4 (fun e => by have := (own2 _ e).1; omega))
      have HS4 := Lib.hid hs4
      have R4 := Lib.hid (Marks.rd_grown R3.out hg4 (fun k e e2 => by have h5 := (own2 _ e).1; have h6 := (OW1.out _ e2).2; omega))
      obtain ⟨g4a, g4b, g4c⟩ := G4.out
      have hz4 : w3.heap.size ≤ w4.heap.size := hg4.size
      clear hs4 hg4 hbel4 own2 g3a g3b g3c R3 X3
      go_wp2_with fail
      refine (Marks.heldLifeTable_any f _ xs.length 1 _ HS4.out.rd (by omega) (by omega) (by omega)).mono ?_; rintro e w5 ⟨rfl, hb5⟩
      have HB5 := Lib.hid (bl HB4.out hb5)
      have R5 := Lib.hid (R4.out.below hb5)
      have M5 := Lib.hid (HS4.out.rd.below hb5)
      have X5 := Lib.hid (X4.out.below hb5)
      have G5 := Lib.hid (G4.out.below hb5)
      clear hb5 g4a g4b g4c
      go_wp2_with fail
      refine (C2.out _ HB5.out).mono ?_; rintro e w6 ⟨v6, rfl, hs6, hb6⟩
      obtain ⟨a6, c6, rfl⟩ := sl_shape hs6
      have HB6 := Lib.hid (bl HB5.out hb6)
      have R6 := Lib.hid ((R5.out.below hb6).below (b0 w6 (.cells #[.int .i64 f, .slice a6 xs.length c6] 39)))
      have M6 := Lib.hid ((M5.out.below hb6).below (b0 w6 (.cells #[.int .i64 f, .slice a6 xs.length c6] 39)))
      have X6 := Lib.hid (X5.out.below hb6)
      have G6 := Lib.hid (G5.out.below hb6)
      have S6 := Lib.hid (hs6.rd.below (b0 w6 (.cells #[.int .i64 f, .slice a6 xs.length c6] 39)))
      obtain ⟨x6a, x6b, x6c⟩ := X6.out
      obtain ⟨g6a, g6b, g6c⟩ := G6.out
      clear hs6 hb6
      go_wp2_with fail
      refine (Tables.eqLifeTable_yes _ _ _ xs _ S6.out R6.out).mono ?_; rintro e w7 ⟨rfl, hb7⟩
      have HB7 := Lib.hid (bl (bl HB6.out (b0 _ _)) hb7)
      have M7 := Lib.hid (M6.out.below hb7)
      have G7 := Lib.hid ((G6.out.below (b0 w6 _)).below hb7)
      obtain ⟨g7a, g7b, g7c⟩ := G7.out
      clear hb7 x6a x6b x6c g6a g6b g6c
      go_wp2_with fail
      refine (Marks.heldLifeTable_any f _ xs.length 1 _ M7.out (by omega) (by omega) (by omega)).mono ?_; rintro e w8 ⟨rfl, hb8⟩
      go_wp2
      go_ret
      exact ⟨rfl, bl HB7.out hb8⟩

set_option maxRecDepth 100000 in
theorem contract (H : Type) (enc : TypeId × Value → H) (W : World) (base : Nat) (args : Array Value) (ds gs : List (DataW H)) (before : List MemPlace)
    (hval0 : ∀ (j : Nat) t v, Tryd.f13.params[j]? = some t → args[j]? = some v → Value.okWide Tryd.prog W .any base t v)
    (hW : DataW.Whole enc Tryd.prog Tryd.f13.params.toList Rows.fnExactReadTableSpec.vars false W args.toList ds gs before) (hL : laidMetH Tryd.prog Rows.fnExactReadTableRow.laid W) (hsh : W.ShapedOpen Tryd.prog) :
    Calls Tryd.prog 13 args W fun e W' => ∃ v, e = .returned v ∧ Rows.fnExactReadTableSpec.post enc Tryd.prog Tryd.f13 false true false false W args v W' := by
  have hval : ∀ (j : Nat) t v, Tryd.f13.params[j]? = some t → args[j]? = some v → Value.okWide Tryd.prog W .any base t v := hval0
  have hW' := hW
  obtain ⟨p, q, hA0, hV, rfl, hfz, hnd⟩ := hW
  have hA : DataW.TrodAll enc Tryd.prog W 0 (fun _ => true) true Tryd.f13.params.toList args.toList ds p := hA0
  rw [Tryd.params13] at hA hval
  obtain ⟨v0, vs0, d0, ds0, p0, q0, hargs, rfl, rfl, h0, r0⟩ := trodAll_cons hA
  obtain ⟨rfl, rfl, rfl⟩ := trodAll_nil r0
  obtain rfl : args = #[v0] := by cases args; simp_all
  obtain ⟨rfl, rfl⟩ := trodVars_none hV
  obtain ⟨a0, rfl, rfl, rfl, w0⟩ := open_string Tryd.underlying9 (hval 0 9 v0 rfl rfl) h0
  clear hA0 hval0
  simp only [List.append_nil] at hW'
  refine (walk a0 w0 W hL hsh).mono fun e W' ⟨he, bel⟩ => ?_
  subst he
  exact ⟨_, rfl, _, _, _, [], [], [], hW', trodAll_mk1 (shut_bool Tryd.underlying4 _), (trodAll_cons_mk (shut_string Tryd.underlying9 w0) trodAll_mk0), rfl, bel.frame _, fun h => by cases h⟩

noncomputable def laidWorld (os : Os) : World := World.laidAll Tryd.prog os Rows.fnExactReadTableRow.laid
theorem laid_met (os : Os) : laidMet Tryd.prog Rows.fnExactReadTableRow.laid ((laidWorld os).forCall (fun _ _ => 0) ⟨#[], #[.string ByteArray.empty], []⟩).memory :=
  laidMet_laidAll _ (by kernel_rfl) (by kernel_rfl)
theorem reads (os : Os) {H : Type} (enc : TypeId × Value → H) : ∃ places, DataW.whole enc Tryd.prog ((laidWorld os).forCall (fun _ _ => 0) ⟨#[], #[.string ByteArray.empty], []⟩).memory Tryd.f13.params.toList Rows.fnExactReadTableSpec.vars false (#[.string ByteArray.empty] : Array Value).toList 8 = some ([.lit (.string [])], [], places) :=
  ⟨[], by kernel_rfl⟩
set_option maxRecDepth 100000 in
theorem lifted (os : Os) (started : os.Started) (H : Type) (enc : TypeId × Value → H) (F : Stop.Interp) :
    ReturnsInHanded {} Tryd.checked os 13 .any ((OpenSpec.ofChange Rows.fnExactReadTableSpec).preRow enc Tryd.prog Tryd.f13 Rows.fnExactReadTableRow.domain false Rows.fnExactReadTableRow.laid) (((OpenSpec.ofChange Rows.fnExactReadTableSpec).at F).post enc Tryd.prog Tryd.f13 false true false false) := by
  obtain ⟨places, hx⟩ := reads os enc
  refine returnsInHanded_of_row (C := Tryd.checked) (s := OpenSpec.ofChange Rows.fnExactReadTableSpec) own started (by kernel_rfl) Tryd.func13
    (witness_row_atRef (enc := enc) (C := Tryd.checked) false (laidWorld os) #[.string ByteArray.empty] (World.laidAll_os _ _ _) (by kernel_rfl) (by kernel_rfl) (by kernel_rfl) (OpenSpec.preRow_of_cond 8 hx (by kernel_rfl) (fun k hk => by cases hk) (by kernel_rfl) (laid_met os))) ?_
  intro W base args ds gs before hval hW _ _ _ hL hsh _
  exact contract H enc W base args ds gs before hval hW hL hsh

theorem said : Rows.FnExactReadTableSaid :=
  OpenClaim.holds_of_cond 13 Tryd.f13 rfl rfl rfl rfl rfl rfl rfl ⟨rfl, rfl, rfl, rfl, rfl⟩ rfl rfl rfl rfl rfl (by kernel_rfl) Tryd.func13 (by kernel_rfl)
    (of_decide_eq_true (by kernel_rfl)) (by unfold Func.isWrapper; first | (rw [if_pos (by decide +kernel)]; kernel_rfl) | (rw [if_neg (by decide +kernel)]; exact ⟨rfl, rfl⟩))
    (fun os started H enc _ F => by rw [OpenClaim.pre_eq_preRow]; exact lifted os started H enc F)

theorem plain (f : FuncId) (fn : Func) (hf : Tryd.pinned.checked.prog.funcNamed "loop.example/g01025/laws.FnExactReadTable" = some f) (hfn : Tryd.pinned.checked.prog.funcs[f]? = some fn) :
    Rows.fnExactReadTableCard.stood.looks = Tryd.pinned.checked.prog.looks [] ∧ ∀ (j : Nat) t, fn.params[j]? = some t → Tryd.pinned.checked.prog.wantsStandIn t = false := by
  obtain rfl : f = 13 := Option.some.inj ((show Tryd.prog.funcNamed "loop.example/g01025/laws.FnExactReadTable" = some 13 by kernel_rfl).symm.trans hf) |>.symm
  obtain rfl : fn = Tryd.f13 := (Option.some.inj (Tryd.func13.symm.trans hfn)).symm
  refine ⟨by kernel_rfl, fun j t ht => ?_⟩
  rw [Tryd.params13] at ht
  have hm := Array.mem_of_getElem? ht
  simp only [List.mem_toArray, List.mem_cons, List.not_mem_nil, or_false] at hm
  rcases hm with rfl
  exact (show Tryd.prog.wantsStandIn 9 = false by kernel_rfl)
theorem proved : Rows.FnExactReadTableCardSaid :=
  Claim7.holds_tied_plain_at .later [] _ _ _ _ said (fun _ h => by cases h) (by kernel_rfl) (fun _ h => by cases h) fnExactReadTable_row_tie rfl ⟨rfl, rfl⟩ (by kernel_rfl) rfl plain (by kernel_rfl)
end Go.Proofs.YtmngljpncglchaaDoor.fnExactReadTable
