/-
  Proved: the law FnExactShareOut returns true, for every input.
  Conditions: none: the given statement Rows.FnExactShareOutSaid, as it stands.
-/
import Derived.Test.YtenaeehefamdmaaRows
import Derived.WalkKit
import Derived.ProofKit
import Derived.OpenShut
import Derived.ShutString
import Derived.ChangeOld
import Derived.Below
import Derived.IntWalk
import Derived.Test.YtenaeehefamdmaaShareOuts
namespace Go.Proofs.Ytenaeehefamdmaa.fnExactShareOut
open Go.ChangeShapes Go.WideShapes Go.ChangeAt Go.RowKit
open Go.ChangeMaps (open_string shut_string)
set_option linter.unusedVariables false

theorem own : ownKnob Try.prog.godebug = none := by kernel_rfl
theorem laidOut : laidOutB Try.prog = true := by kernel_rfl

open Mem

set_option maxHeartbeats 1000000 in
theorem walk (a0 : Int) (a1 : Option Addr) (len1 cap1 : Nat) (z1 : List Int) (w : World) (w0 : (Lit.int .i64 a0).wf = true) (w1 : IsRow .i64 w a1 len1 cap1 z1) :
    Calls Try.prog 4 #[.int .i64 a0, .slice a1 len1 cap1] w fun e w' => e = .returned (.bool true) ∧ Below w.heap.size w w' := by
  obtain ⟨hlen, hxl⟩ := row_len w1
  by_cases hbig : 1048576 < len1
  · clear w0 w1
    go_enter Try.func4, Try.ntmps4
    go_wp2
    go_ret
    exact ⟨rfl, Below.refl _ _⟩
  have ha := Lib.hid (arg_of_row w1 (by omega))
  have hxn : (z1.take len1).length ≤ 1048576 := by omega
  have HXL := Lib.hid hxl
  clear w1 hxl
  have hb0 := bounds_i64 w0
  obtain ⟨p0, p1⟩ := hb0
  clear w0
  generalize z1.take len1 = xs at *
  have HA := Lib.hid (fun w' (h : Below w.heap.size w w') => Helpers.toInt64S_any _ xs w' (ha.out.below h) hxn)
  have C1 := Lib.hid (fun v w h => Shares.specShareOut_any a0 v xs w h)
  have C2 := Lib.hid (fun v w h => Shares.implShareOut_any a0 v xs w h)
  clear ha
  go_enter Try.func4, Try.ntmps4
  go_wp2_with fail
  refine (HA.out _ (Below.refl _ _)).mono ?_; rintro e w1 ⟨u1, rfl, hs1, hb1⟩
  have HB1 := Lib.hid hb1
  have S1 := Lib.hid hs1
  clear hs1 hb1
  go_wp2_with fail
  refine (C1.out _ _ S1.out.rd).mono ?_; rintro e w2 ⟨v2, os, cd, rfl, hall, hs2, hb2⟩
  obtain ⟨a2, c2, rfl⟩ := sl_shape hs2
  have ALL := Lib.hid hall
  have HB2 := Lib.hid (bl HB1.out hb2)
  have OW2 := Lib.hid (Marks.sl_own hs2)
  have R2 := Lib.hid hs2.rd
  clear hs2 hb2 hall
  go_wp2_with fail
  refine (HA.out _ HB2.out).mono ?_; rintro e w3 ⟨u3, rfl, hs3, hb3⟩
  have HB3 := Lib.hid (bl HB2.out hb3)
  have R3 := Lib.hid (R2.out.below hb3)
  have S3 := Lib.hid hs3
  have OW3 := Lib.hid (Marks.sl_own hs3)
  have hz3 : w2.heap.size ≤ w3.heap.size := hb3.size
  clear hs3 hb3 R2
  go_wp2_with fail
  refine (C2.out _ _ S3.out.rd).mono ?_; rintro e w4 ⟨v4, os', cd', rfl, hone, hs4, hb4⟩
  have hol := Shares.one_len hone
  obtain ⟨rfl, rfl⟩ := Shares.one_all ALL.out hone
  obtain ⟨a4, c4, rfl⟩ := sl_shape hs4
  have hol2 : os'.length ≤ 1048576 := by omega
  have HB4 := Lib.hid (bl HB3.out hb4)
  have R4 := Lib.hid (R3.out.below hb4)
  have S3b := Lib.hid (S3.out.below hb4)
  have S4 := Lib.hid hs4
  have OW4 := Lib.hid (Marks.sl_own hs4)
  have hz4 : w3.heap.size ≤ w4.heap.size := hb4.size
  clear hs4 hb4 R3 hone hol
  go_wp2_with fail
  refine (Lists.eqInt64S_yes _ _ os' _ S4.out.rd R4.out).mono ?_; rintro e w5 ⟨rfl, hb5⟩
  have HB5 := Lib.hid (bl HB4.out hb5)
  have R5 := Lib.hid (R4.out.below hb5)
  have S5 := Lib.hid (S4.out.below hb5)
  have S3c := Lib.hid (S3b.out.below hb5)
  have hz5 : w4.heap.size ≤ w5.heap.size := hb5.size
  clear hb5
  go_wp2_with fail
  refine (HA.out _ HB5.out).mono ?_; rintro e w6 ⟨u6, rfl, hs6, hb6⟩
  have HB6 := Lib.hid (bl HB5.out hb6)
  have R6 := Lib.hid (R5.out.below hb6)
  have S6 := Lib.hid (S5.out.below hb6)
  have S3d := Lib.hid (S3c.out.below hb6)
  have T6 := Lib.hid hs6.rd
  have hz6 : w5.heap.size ≤ w6.heap.size := hb6.size
  clear hs6 hb6
  go_wp2_with fail
  refine (Lists.eqInt64S_yes _ _ xs _ S3d.out.rd T6.out).mono ?_; rintro e w7 ⟨rfl, hb7⟩
  have HB7 := Lib.hid (bl HB6.out hb7)
  have R7 := Lib.hid (R6.out.below hb7)
  have S7 := Lib.hid (S6.out.below hb7)
  have S3e := Lib.hid (S3d.out.below hb7)
  have hz7 : w6.heap.size ≤ w7.heap.size := hb7.size
  clear hb7
  go_wp2_with fail
  refine (Marks.markInt64S_g _ xs w2.heap.size 1 _ S3e.out (by omega) (by omega) (by omega)).mono ?_; rintro e w8 ⟨rfl, hs8, hg8⟩
  have hbel8 := Marks.grown_bel (by omega) S3e.out hg8
  have HB8 := Lib.hid (HB7.out.trans (hbel8.mono (by have := HB2.out.size; omega)))
  have R8 := Lib.hid (Marks.rd_grown R7.out hg8 (fun k e e2 => by have h5 := (OW3.out _ e).1; have h6 := (OW2.out _ e2).2; omega))
  have S8 := Lib.hid (Marks.sl_grown S7.out hg8 (fun k e e2 => by have h5 := (OW3.out _ e).2; have h6 := (OW4.out _ e2).1; omega))
  have hz8 : w7.heap.size ≤ w8.heap.size := hg8.size
  clear hs8 hg8 hbel8
  go_wp2_with fail
  refine (Lists.eqInt64S_yes _ _ os' _ S8.out.rd R8.out).mono ?_; rintro e w9 ⟨rfl, hb9⟩
  have HB9 := Lib.hid (bl HB8.out hb9)
  have R9 := Lib.hid (R8.out.below hb9)
  have S9 := Lib.hid (S8.out.below hb9)
  have hz9 : w8.heap.size ≤ w9.heap.size := hb9.size
  clear hb9
  go_wp2_with fail
  refine (Marks.markInt64S_g _ os' w3.heap.size 1 _ S9.out (by omega) (by omega) (by omega)).mono ?_; rintro e w10 ⟨rfl, hs10, hg10⟩
  have hbel10 := Marks.grown_bel (by omega) S9.out hg10
  have HB10 := Lib.hid (HB9.out.trans (hbel10.mono (by have := HB3.out.size; omega)))
  have R10 := Lib.hid (Marks.rd_grown R9.out hg10 (fun k e e2 => by have h5 := (OW4.out _ e).1; have h6 := (OW2.out _ e2).2; omega))
  have S10 := Lib.hid hs10
  clear hs10 hg10 hbel10
  go_wp2_with fail
  refine (Helpers.heldInt64S_any _ os'.length 1 _ S10.out.rd (by omega) (by omega) (by omega)).mono ?_; rintro e w11 ⟨rfl, hb11⟩
  have HB11 := Lib.hid (bl HB10.out hb11)
  have R11 := Lib.hid (R10.out.below hb11)
  have M11 := Lib.hid (S10.out.rd.below hb11)
  clear hb11
  go_wp2_with fail
  refine (HA.out _ HB11.out).mono ?_; rintro e w12 ⟨u12, rfl, hs12, hb12⟩
  have HB12 := Lib.hid (bl HB11.out hb12)
  have R12 := Lib.hid (R11.out.below hb12)
  have M12 := Lib.hid (M11.out.below hb12)
  have T12 := Lib.hid hs12.rd
  clear hs12 hb12
  go_wp2_with fail
  refine (C2.out _ _ T12.out).mono ?_; rintro e w13 ⟨v13, os2, cd2, rfl, hone, hs13, hb13⟩
  obtain ⟨rfl, rfl⟩ := Shares.one_all ALL.out hone
  obtain ⟨a13, c13, rfl⟩ := sl_shape hs13
  have HB13 := Lib.hid (bl HB12.out hb13)
  have R13 := Lib.hid (R12.out.below hb13)
  have M13 := Lib.hid (M12.out.below hb13)
  have S13 := Lib.hid hs13.rd
  clear hs13 hb13 hone
  go_wp2_with fail
  refine (Lists.eqInt64S_yes _ _ os2 _ S13.out R13.out).mono ?_; rintro e w14 ⟨rfl, hb14⟩
  have HB14 := Lib.hid (bl HB13.out hb14)
  have M14 := Lib.hid (M13.out.below hb14)
  clear hb14
  go_wp2_with fail
  refine (Helpers.heldInt64S_any _ os2.length 1 _ M14.out (by omega) (by omega) (by omega)).mono ?_; rintro e w15 ⟨rfl, hb15⟩
  go_wp2
  go_ret
  exact ⟨rfl, bl HB14.out hb15⟩

set_option maxRecDepth 100000 in
theorem lifted (os : Os) (started : os.Started) (H : Type) (enc : TypeId × Value → H) :
    ReturnsInHanded {} Try.checked os 4 .any (Rows.fnExactShareOutSpec.pre6 enc Try.prog Try.f4 Rows.fnExactShareOutRow.domain false) (Rows.fnExactShareOutSpec.post enc Try.prog Try.f4 false true false false) := by
  refine returnsInHanded_of_change (C := Try.checked) own started (by kernel_rfl) Try.func4
    (ChangeSpec.witness6 (enc := enc) (C := Try.checked) false ⟨#[], #[.int .i64 0, .slice none 0 0], []⟩ 8 (by kernel_rfl) (by kernel_rfl) (by kernel_rfl) (by kernel_rfl)) ?_
  intro W base args ds gs before hval0 hW hcnd _
  have hval : ∀ (j : Nat) t v, Try.f4.params[j]? = some t → args[j]? = some v → Value.okWide Try.prog W .any base t v := hval0
  have hW' := hW
  obtain ⟨p, q, hA0, hV, rfl, hfz, hnd⟩ := hW
  have hA : DataW.TrodAll enc Try.prog W 0 (fun _ => true) true Try.f4.params.toList args.toList ds p := hA0
  rw [Try.params4] at hA hval
  obtain ⟨v0, vs0, d0, ds0, p0, q0, hargs, rfl, rfl, h0, r0⟩ := trodAll_cons hA
  obtain ⟨v1, vs1, d1, ds1, p1, q1, rfl, rfl, rfl, h1, r1⟩ := trodAll_cons r0
  obtain ⟨rfl, rfl, rfl⟩ := trodAll_nil r1
  obtain rfl : args = #[v0, v1] := by cases args; simp_all
  obtain ⟨rfl, rfl⟩ := trodVars_none hV
  obtain ⟨a0, rfl, rfl, rfl, w0⟩ := open_int Try.underlying2 (hval 0 2 v0 rfl rfl) h0
  obtain ⟨a1, len1, cap1, rfl⟩ := okWide_slice Try.underlying22 (hval 1 22 v1 rfl rfl)
  have k1 := h1
  have lt1 : ∀ x ∈ p1, x.block < W.heap.size := by obtain ⟨m, hm⟩ := k1; exact DataW.trod_lt m _ _ _ hm
  obtain ⟨z1, w1⟩ : ∃ zs, IsRow .i64 W a1 len1 cap1 zs := by
    obtain ⟨fuel, hf⟩ := h1
    rcases open_ints Try.underlying22 Try.underlying2 (by kernel_rfl) hf with ⟨hcs, _⟩ | ⟨x, l, c, zs, hcs, _, hl, hm, hz, _, hcell, hwz⟩
    · simp [Value.cells] at hcs
      obtain ⟨rfl, rfl, rfl⟩ := hcs
      exact ⟨[], .inl ⟨rfl, rfl, rfl, rfl⟩⟩
    · simp [Value.cells] at hcs
      obtain ⟨rfl, rfl, rfl⟩ := hcs
      exact ⟨zs, .inr ⟨_, rfl, hl, hm, by simpa using hz, hcell, hwz⟩⟩
  clear hA0 hval0
  refine (walk a0 a1 len1 cap1 z1 W w0 w1).mono fun e W' ⟨he, bel⟩ => ?_
  subst he
  exact ⟨_, rfl, _, _, _, [], _, [], hW', trodAll_mk1 (shut_bool Try.underlying4 _), (trodAll_cons_mk (shut_int Try.underlying2 w0) (trodAll_cons_mk (Below.trod laidOut (by kernel_rfl) (of_decide_eq_true (by kernel_rfl)) k1 bel lt1) trodAll_mk0)), rfl, bel.frame _, fun h => by cases h⟩

theorem over : Rows.fnExactShareOutRow.holds Try.pinned (OpenSpec.ofChange Rows.fnExactShareOutSpec) :=
  OpenClaim.holds_of_wide 4 Try.f4 rfl rfl rfl rfl rfl rfl rfl ⟨rfl, rfl, rfl, rfl, rfl⟩ rfl rfl rfl rfl rfl (by kernel_rfl) Try.func4 (by kernel_rfl)
    (of_decide_eq_true (by kernel_rfl)) (by unfold Func.isWrapper; first | (rw [if_pos (by decide +kernel)]; kernel_rfl) | (rw [if_neg (by decide +kernel)]; exact ⟨rfl, rfl⟩))
    (fun os started H enc _ => lifted os started H enc)

theorem proved : Rows.FnExactShareOutSaid := over
end Go.Proofs.Ytenaeehefamdmaa.fnExactShareOut
