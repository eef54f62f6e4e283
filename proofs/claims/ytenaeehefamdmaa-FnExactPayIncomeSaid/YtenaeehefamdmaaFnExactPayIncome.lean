/-
  Proved: the law FnExactPayIncome returns true, for every input.
  Conditions: none: the given statement Rows.FnExactPayIncomeSaid, as it stands.
-/
import Derived.Test.YtenaeehefamdmaaStructs
import Derived.Test.YtenaeehefamdmaaRows
import Derived.WalkKit
import Derived.ProofKit
import Derived.OpenShut
import Derived.ShutString
import Derived.ChangeOld
import Derived.Below
import Derived.IntWalk
import Derived.Test.YtenaeehefamdmaaPays4
import Derived.Deep.RegionHeld3
namespace Go.Proofs.Ytenaeehefamdmaa.fnExactPayIncome
open Go.ChangeShapes Go.WideShapes Go.ChangeAt Go.RowKit
open Go.ChangeMaps (open_string shut_string)
set_option linter.unusedVariables false

theorem own : ownKnob Try.prog.godebug = none := by kernel_rfl
theorem laidOut : laidOutB Try.prog = true := by kernel_rfl

open Mem Pays Owns

theorem all_len {sh de : List Int} {ch inc : Int} {S D P : List Int} {C K : Int} (h : AllIs sh de ch inc S D P C K) : S.length ≤ sh.length ∧ D.length ≤ de.length ∧ P.length ≤ sh.length := by
  rcases h with ⟨_, _, h⟩ | ⟨_, _, rfl, rfl, rfl, _⟩ | ⟨_, rfl, rfl, rfl, _⟩
  · rcases h with ⟨_, rfl, rfl, rfl, _⟩ | ⟨_, _, rfl, rfl, rfl, _⟩ | ⟨_, _, rfl, rfl, rfl, _⟩
    · exact ⟨Nat.le_refl _, Nat.le_refl _, by rw [paid_len]; exact Nat.le_refl _⟩
    · exact ⟨Nat.le_refl _, Nat.le_refl _, by rw [paid_len]; exact Nat.le_refl _⟩
    · simp
  · simp
  · simp

set_option maxHeartbeats 4000000 in
set_option maxRecDepth 100000 in
theorem walk (a0_0 : Option Addr) (len0_0 cap0_0 : Nat) (z0_0 : List Int) (a0_1 : Option Addr) (len0_1 cap0_1 : Nat) (z0_1 : List Int) (f0_2 : Int) (a1 : Int) (w : World) (w0_0 : IsRow .i64 w a0_0 len0_0 cap0_0 z0_0) (w0_1 : IsRow .i64 w a0_1 len0_1 cap0_1 z0_1) (wf0_2 : (Lit.int .i64 f0_2).wf = true) (w1 : (Lit.int .i64 a1).wf = true) :
    Calls Try.prog 3 #[.agg #[.slice a0_0 len0_0 cap0_0, .slice a0_1 len0_1 cap0_1, .int .i64 f0_2], .int .i64 a1] w fun e w' => e = .returned (.bool true) ∧ Below w.heap.size w w' := by
  obtain ⟨hlen0, hxl0⟩ := row_len w0_0
  obtain ⟨hlen1, hxl1⟩ := row_len w0_1
  by_cases hbig : 1048576 < len0_0 + len0_1
  · clear w0_0 w0_1 wf0_2 w1
    go_enter Try.func3, Try.ntmps3
    go_wp2_with fail
    refine (Classes.szClass_no _ _ _ _ _ _ _ _ _ hlen0 hlen1 (by omega) (by omega) (by omega)).mono ?_; rintro e w1 ⟨rfl, hb1⟩
    go_wp2
    go_ret
    exact ⟨rfl, bl (b0 _ _) hb1⟩
  have ha := Lib.hid (arg_of_row w0_0 (by omega))
  have hb := Lib.hid (arg_of_row w0_1 (by omega))
  have hxn : (z0_0.take len0_0).length ≤ 1048576 := by omega
  have hyn : (z0_1.take len0_1).length ≤ 1048576 := by omega
  have HB0 := Lib.hid (b0 w)
  have HX0 := Lib.hid (box3_new w (.slice a0_0 len0_0 cap0_0) (.slice a0_1 len0_1 cap0_1) (.int .i64 f0_2))
  clear w0_0 w0_1 wf0_2 hxl0 hxl1 w1
  generalize z0_0.take len0_0 = xs at *
  generalize z0_1.take len0_1 = ys at *
  go_enter Try.func3, Try.ntmps3
  go_wp2_with fail
  refine (Classes.szClass_yes _ _ _ _ _ _ _ _ _ hlen0 hlen1 (by omega) (by omega)).mono ?_; rintro e w1 ⟨rfl, hb1⟩
  have HC1 := Lib.hid (bl (HB0.out _) hb1)
  have X1 := Lib.hid ((HX0.out _).below hb1)
  obtain ⟨x0, x1, x2, x3⟩ := X1.out
  clear hb1 HX0
  go_wp2_with fail
  refine (Classes.toClass_any _ _ _ xs ys _ (ha.out.below HC1.out) (hb.out.below HC1.out) hxn hyn).mono ?_; rintro e w2 ⟨u1, u2, rfl, hs1, hs2, hb2⟩
  have HC2 := Lib.hid (bl HC1.out hb2)
  have X2 := Lib.hid (X1.out.below hb2)
  have A1 := Lib.hid hs1.rd
  have A2 := Lib.hid hs2.rd
  clear hs1 hs2 hb2 x0 x1 x2 x3 X1
  go_wp2_with fail
  refine (specPayIncome_any f0_2 a1 _ _ xs ys _ A1.out A2.out).mono ?_; rintro e w3 ⟨S, D, P, C, K, s1, s2, s3, hall, rfl, hl, hb3⟩
  obtain ⟨k1, k2, k3⟩ := all_len hall
  have ALL := Lib.hid hall
  obtain ⟨p1, q1, rfl⟩ := sl_shape hl.1
  obtain ⟨p2, q2, rfl⟩ := sl_shape hl.2.1
  obtain ⟨p3, q3, rfl⟩ := sl_shape hl.2.2.1
  -- the reference's results, whatever is written behind them
  obtain ⟨wS, hwS, hSz, HCS, XS, FS, RS1, RS2, RS3⟩ : ∃ wS : World, Hid (wS = w3.alloc (.cells #[.slice p1 S.length q1, .slice p2 D.length q2, .int .i64 C] 26)) ∧ Hid (wS.heap.size = w3.heap.size + 1) ∧ Hid (Below w.heap.size w wS) ∧ Hid (Box3 wS w.heap.size (.slice a0_0 len0_0 cap0_0) (.slice a0_1 len0_1 cap0_1) (.int .i64 f0_2)) ∧ Hid (FBox wS w3.heap.size (.slice p1 S.length q1) (.slice p2 D.length q2) (.int .i64 C)) ∧ Hid (Rd wS (.slice p1 S.length q1) S) ∧ Hid (Rd wS (.slice p2 D.length q2) D) ∧ Hid (Rd wS (.slice p3 P.length q3) P) :=
    ⟨_, rfl, by show _ = _; simp, bl (bl HC2.out hb3) (b0 _ _), (X2.out.below hb3).below (b0 _ _), fbox_new w3 _ _ _, hl.1.rd.below (b0 _ _), hl.2.1.rd.below (b0 _ _), hl.2.2.1.rd.below (b0 _ _)⟩
  obtain ⟨x0, x1, x2, x3⟩ := X2.out.below hb3
  clear hl hb3 hall A1 A2 X2 HC2 HC1
  go_wp2_with fail
  rw [← hwS.out]
  refine (toClass_sep _ _ _ xs ys _ (ha.out.below HCS.out) (hb.out.below HCS.out) hxn hyn).mono ?_; rintro e w4 ⟨y1, y2, rfl, hy1, hy2, hysep, hb4⟩
  obtain ⟨o1, c1, rfl⟩ := sl_shape hy1
  obtain ⟨o2, c2, rfl⟩ := sl_shape hy2
  obtain ⟨wX, hwX, hXz, HSX, FX, Y1, Y2, YS⟩ : ∃ wX : World, Hid (wX = w4.alloc (.cells #[.slice o1 xs.length c1, .slice o2 ys.length c2, .int .i64 f0_2] 26)) ∧ Hid (wX.heap.size = w4.heap.size + 1) ∧ Hid (Below wS.heap.size wS wX) ∧ Hid (FBox wX w4.heap.size (.slice o1 xs.length c1) (.slice o2 ys.length c2) (.int .i64 f0_2)) ∧ Hid (Sl wX wS.heap.size (.slice o1 xs.length c1) xs) ∧ Hid (Sl wX wS.heap.size (.slice o2 ys.length c2) ys) ∧ Hid (Sep (.slice o1 xs.length c1) (.slice o2 ys.length c2)) :=
    ⟨_, rfl, by show _ = _; simp, bl hb4 (b0 _ _), fbox_new w4 _ _ _, hy1.below (b0 _ _), hy2.below (b0 _ _), hysep⟩
  obtain ⟨x0, x1, x2, x3⟩ := XS.out.below hb4
  clear hy1 hy2 hysep hb4 hwS
  go_wp2_with fail
  rw [← hwX.out]
  refine (implPayIncome_any f0_2 a1 _ _ xs ys _ Y1.out.rd Y2.out.rd).mono ?_; rintro e w5 ⟨S', D', P', C', K', g1, g2, g3, hall', rfl, hl, hb5⟩
  obtain ⟨rfl, rfl, rfl, rfl, rfl⟩ := allIs_one ALL.out hall'
  obtain ⟨m1, r1, rfl⟩ := sl_shape hl.1
  obtain ⟨m2, r2, rfl⟩ := sl_shape hl.2.1
  obtain ⟨m3, r3, rfl⟩ := sl_shape hl.2.2.1
  have HL := Lib.hid hl
  have HX5 := Lib.hid hb5
  obtain ⟨z0, z1, z2, z3, z4⟩ := (FX.out.below hb5).parts
  obtain ⟨x0, x1, x2, x3⟩ := (XS.out.below HSX.out).below hb5
  obtain ⟨f0, f1, f2, f3, f4⟩ := (FS.out.below (bl HSX.out hb5)).parts
  clear hl hb5 hall' hwX
  -- the program's results and what lies below them
  obtain ⟨wG, hwG, hGz, HXG, FG, LG⟩ : ∃ wG : World, Hid (wG = w5.alloc (.cells #[.slice m1 S.length r1, .slice m2 D.length r2, .int .i64 C] 26)) ∧ Hid (wG.heap.size = w5.heap.size + 1) ∧ Hid (Below wX.heap.size wX wG) ∧ Hid (FBox wG w5.heap.size (.slice m1 S.length r1) (.slice m2 D.length r2) (.int .i64 C)) ∧ Hid (Lies wX.heap.size wG (.slice m1 S.length r1) (.slice m2 D.length r2) (.slice m3 P.length r3) S D P) :=
    ⟨_, rfl, by show _ = _; simp, bl HX5.out (b0 _ _), fbox_new w5 _ _ _, by obtain ⟨l1, l2, l3, l4⟩ := HL.out; exact ⟨l1.below (b0 _ _), l2.below (b0 _ _), l3.below (b0 _ _), l4⟩⟩
  have NG : Hid (∀ v : Value, (v = .slice m1 S.length r1 ∨ v = .slice m2 D.length r2 ∨ v = .slice m3 P.length r3) → v.ownBlock ≠ some w5.heap.size) := fun v hv e => by
    obtain ⟨l1, l2, l3, _⟩ := HL.out
    rcases hv with rfl | rfl | rfl
    · have := (Marks.sl_own l1 _ e).2; omega
    · have := (Marks.sl_own l2 _ e).2; omega
    · have := (Marks.sl_own l3 _ e).2; omega
  have hs5 : w4.heap.size < w5.heap.size := by have := HX5.out.size; have := hXz.out; omega
  go_wp2_with fail
  rw [← hwG.out]
  have G1 := Lib.hid LG.out.1
  have G2 := Lib.hid LG.out.2.1
  have G3 := Lib.hid LG.out.2.2.1
  have HSG := Lib.hid (bl HSX.out HXG.out)
  refine (Classes.eqClass_yes _ _ _ _ _ S D _ G1.out.rd G2.out.rd (RS1.out.below HSG.out) (RS2.out.below HSG.out)).mono ?_; rintro e w6 ⟨rfl, hb6⟩
  have HG6 := Lib.hid hb6
  clear hb6
  go_wp2_with fail
  refine (Lists.eqInt64S_yes _ _ P _ (G3.out.rd.below HG6.out) (RS3.out.below (bl HSG.out HG6.out))).mono ?_; rintro e w7 ⟨rfl, hb7⟩
  have HG7 := Lib.hid (bl HG6.out hb7)
  clear hb7 z0 z1 z2 z3 z4 x0 x1 x2 x3 f0 f1 f2 f3 f4
  obtain ⟨z0, z1, z2, z3, z4⟩ := (FX.out.below (bl HXG.out HG7.out)).parts
  obtain ⟨x0, x1, x2, x3⟩ := XS.out.below (bl HSG.out HG7.out)
  go_wp2_with fail
  have HW7 := Lib.hid (bl HCS.out (bl HSG.out HG7.out))
  go_region_held3 (fun w' => w'.cell? ⟨w.heap.size, 0, none⟩ = some (.slice a0_0 len0_0 cap0_0) ∧ w'.cell? ⟨w.heap.size, 1, none⟩ = some (.slice a0_1 len0_1 cap0_1) ∧ w'.cell? ⟨w.heap.size, 2, none⟩ = some (.int .i64 f0_2) ∧ w'.cell? ⟨w4.heap.size, 0, none⟩ = some (.slice o1 xs.length c1) ∧ w'.cell? ⟨w4.heap.size, 1, none⟩ = some (.slice o2 ys.length c2) ∧ w'.cell? ⟨w4.heap.size, 2, none⟩ = some (.int .i64 f0_2)) (go_keep)
    (first
      | (go_at_call 8; refine (Classes.toClass_any _ _ _ xs ys _ (ha.out.below HW7.out.drew) (hb.out.below HW7.out.drew) hxn hyn).mono ?_; rintro e w8 ⟨t1, t2, rfl, ht1, ht2, hb8d⟩; have hb8 := undrew hb8d; have HG8 := Lib.hid (bl HG7.out hb8); have T1 := Lib.hid ht1.rd; have T2 := Lib.hid ht2.rd; obtain ⟨z0, z1, z2, z3, z4⟩ := (FX.out.below (bl HXG.out HG8.out)).parts; obtain ⟨x0, x1, x2, x3⟩ := XS.out.below (bl HSG.out HG8.out); clear ht1 ht2 hb8d hb8)
      | (go_at_call 10; refine (Classes.eqClass_yes _ _ _ _ _ xs ys _ (Y1.out.rd.below (bl HXG.out HG8.out)) (Y2.out.rd.below (bl HXG.out HG8.out)) T1.out T2.out).mono ?_; rintro e w9 ⟨rfl, hb9⟩; have HG9 := Lib.hid (bl HG8.out hb9); obtain ⟨z0, z1, z2, z3, z4⟩ := (FX.out.below (bl HXG.out HG9.out)).parts; obtain ⟨x0, x1, x2, x3⟩ := XS.out.below (bl HSG.out HG9.out); clear hb9))
  go_wp2_with fail
  -- the copy is marked
  have YX1 := Lib.hid (Y1.out.below (bl HXG.out HG9.out))
  have YX2 := Lib.hid (Y2.out.below (bl HXG.out HG9.out))
  have hS9 : wS.heap.size ≤ w9.heap.size := (bl HSG.out HG9.out).size
  refine (markClass_any _ _ _ xs ys wS.heap.size _ _ YX1.out YX2.out hS9 YS.out (by omega) (by omega) (by omega) (by omega)).mono ?_; rintro e w10 ⟨rfl, _, _, ht10, hbs10⟩
  have HS10 := Lib.hid ((bl HSG.out HG9.out).trans hbs10)
  have SY : Hid (∀ v : Value, ∀ zs, Sl wG wX.heap.size v zs → Sep (.slice o1 xs.length c1) v ∧ Sep (.slice o2 ys.length c2) v) := fun v zs h => ⟨fun k e1 e2 => by have := (Marks.sl_own Y1.out k e1).2; have := (Marks.sl_own h k e2).1; omega, fun k e1 e2 => by have := (Marks.sl_own Y2.out k e1).2; have := (Marks.sl_own h k e2).1; omega⟩
  have Ga1 := Lib.hid (ht10.sl (G1.out.below HG9.out) (SY.out _ _ G1.out).1 (SY.out _ _ G1.out).2)
  have Ga2 := Lib.hid (ht10.sl (G2.out.below HG9.out) (SY.out _ _ G2.out).1 (SY.out _ _ G2.out).2)
  have Ga3 := Lib.hid (ht10.sl (G3.out.below HG9.out) (SY.out _ _ G3.out).1 (SY.out _ _ G3.out).2)
  have FGa := Lib.hid (ht10.box (FG.out.below HG9.out) (fun e => by have := (Marks.sl_own Y1.out _ e).2; have := HX5.out.size; omega) (fun e => by have := (Marks.sl_own Y2.out _ e).2; have := HX5.out.size; omega))
  have hXa : wX.heap.size ≤ w10.heap.size := by have := HXG.out.size; have := HG9.out.size; have := ht10.1; omega
  clear ht10 hbs10 z0 z1 z2 z3 z4 x0 x1 x2 x3
  obtain ⟨z0, z1, z2, z3, z4⟩ := FGa.out.parts
  obtain ⟨f0, f1, f2, f3, f4⟩ := (FS.out.below HS10.out).parts
  go_wp2_with fail
  refine (Classes.eqClass_yes _ _ _ _ _ S D _ Ga1.out.rd Ga2.out.rd (RS1.out.below HS10.out) (RS2.out.below HS10.out)).mono ?_; rintro e w11 ⟨rfl, hb11⟩
  have Ha11 := Lib.hid hb11
  clear hb11
  go_wp2_with fail
  refine (Lists.eqInt64S_yes _ _ P _ (Ga3.out.rd.below Ha11.out) (RS3.out.below (bl HS10.out Ha11.out))).mono ?_; rintro e w12 ⟨rfl, hb12⟩
  have Ha12 := Lib.hid (bl Ha11.out hb12)
  clear hb12 z0 z1 z2 z3 z4 f0 f1 f2 f3 f4
  obtain ⟨z0, z1, z2, z3, z4⟩ := (FGa.out.below Ha12.out).parts
  go_wp2_with fail
  -- the results are marked
  have h12 := Ha12.out.size
  have hXS : wS.heap.size ≤ wX.heap.size := HSX.out.size
  refine (markClass_any _ _ _ S D wX.heap.size _ _ (Ga1.out.below Ha12.out) (Ga2.out.below Ha12.out) (by omega) LG.out.2.2.2.1 (by omega) (by omega) (by omega) (by omega)).mono ?_; rintro e w13 ⟨rfl, hm1, hm2, ht13, hb13⟩
  have Gb3 := Lib.hid (ht13.sl (Ga3.out.below Ha12.out) LG.out.2.2.2.2.1 LG.out.2.2.2.2.2)
  have FGb := Lib.hid (ht13.box (FGa.out.below Ha12.out) (NG.out _ (.inl rfl)) (NG.out _ (.inr (.inl rfl))))
  have Mb1 := Lib.hid hm1
  have Mb2 := Lib.hid hm2
  have HSb := Lib.hid ((bl HS10.out Ha12.out).trans (hb13.mono hXS))
  have h13 : wX.heap.size ≤ w13.heap.size := by have := ht13.1; omega
  clear hm1 hm2 ht13 hb13 z0 z1 z2 z3 z4
  go_wp2_with fail
  refine (Marks.markInt64S_g _ P wX.heap.size _ _ Gb3.out (by omega) (by omega) (by omega)).mono ?_; rintro e w14 ⟨rfl, hm3, hg14⟩
  have Mc3 := Lib.hid hm3
  have Mc1 := Lib.hid (Marks.sl_grown Mb1.out hg14 (fun k e1 e2 => LG.out.2.2.2.2.1 k e2 e1))
  have Mc2 := Lib.hid (Marks.sl_grown Mb2.out hg14 (fun k e1 e2 => LG.out.2.2.2.2.2 k e2 e1))
  have FGc : Hid (FBox w14 w5.heap.size (.slice m1 S.length r1) (.slice m2 D.length r2) (.int .i64 C)) := (hg14.block _ FGb.out.lt (fun e => NG.out _ (.inr (.inr rfl)) e.symm)).trans FGb.out
  have HSc := Lib.hid (HSb.out.trans ((Marks.grown_bel h13 Gb3.out hg14).mono hXS))
  clear hm3 hg14
  obtain ⟨z0, z1, z2, z3, z4⟩ := FGc.out.parts
  go_wp2_with fail
  refine (heldClass_any _ _ _ S.length D.length _ _ Mc1.out.rd Mc2.out.rd (by omega) (by omega) (by omega) (by omega)).mono ?_; rintro e w15 ⟨rfl, hb15⟩
  have Hc15 := Lib.hid hb15
  clear hb15
  go_wp2_with fail
  refine (Helpers.heldInt64S_any _ P.length _ _ (Mc3.out.rd.below Hc15.out) (by omega) (by omega) (by omega)).mono ?_; rintro e w16 ⟨rfl, hb16⟩
  have Hc16 := Lib.hid (bl Hc15.out hb16)
  clear hb16 z0 z1 z2 z3 z4
  obtain ⟨x0, x1, x2, x3⟩ := XS.out.below (bl HSc.out Hc16.out)
  have HW16 := Lib.hid (bl HCS.out (bl HSc.out Hc16.out))
  go_wp2_with fail
  refine (Classes.toClass_any _ _ _ xs ys _ (ha.out.below HW16.out) (hb.out.below HW16.out) hxn hyn).mono ?_; rintro e w17 ⟨t3, t4, rfl, ht3, ht4, hb17⟩
  have Hc17 := Lib.hid (bl Hc16.out hb17)
  have T3 := Lib.hid ht3.rd
  have T4 := Lib.hid ht4.rd
  clear ht3 ht4 hb17 x0 x1 x2 x3
  go_wp2_with fail
  refine (implPayIncome_any f0_2 a1 _ _ xs ys _ T3.out T4.out).mono ?_; rintro e w18 ⟨S', D', P', C', K', h1, h2, h3, hall', rfl, hl, hb18⟩
  obtain ⟨rfl, rfl, rfl, rfl, rfl⟩ := allIs_one ALL.out hall'
  obtain ⟨l1, v1, rfl⟩ := sl_shape hl.1
  obtain ⟨l2, v2, rfl⟩ := sl_shape hl.2.1
  obtain ⟨l3, v3, rfl⟩ := sl_shape hl.2.2.1
  have Hc18 := Lib.hid (bl Hc17.out hb18)
  have HL2 := Lib.hid hl
  obtain ⟨wH, hwH, HcH, L1, L2, L3⟩ : ∃ wH : World, Hid (wH = w18.alloc (.cells #[.slice l1 S.length v1, .slice l2 D.length v2, .int .i64 C] 26)) ∧ Hid (Below w14.heap.size w14 wH) ∧ Hid (Rd wH (.slice l1 S.length v1) S) ∧ Hid (Rd wH (.slice l2 D.length v2) D) ∧ Hid (Rd wH (.slice l3 P.length v3) P) :=
    ⟨_, rfl, bl Hc18.out (b0 _ _), hl.1.rd.below (b0 _ _), hl.2.1.rd.below (b0 _ _), hl.2.2.1.rd.below (b0 _ _)⟩
  obtain ⟨f0, f1, f2, f3, f4⟩ := (FS.out.below (bl HSc.out Hc18.out)).parts
  clear hl hb18 hall'
  go_wp2_with fail
  rw [← hwH.out]
  refine (Classes.eqClass_yes _ _ _ _ _ S D _ L1.out L2.out (RS1.out.below (bl HSc.out HcH.out)) (RS2.out.below (bl HSc.out HcH.out))).mono ?_; rintro e w19 ⟨rfl, hb19⟩
  have HH19 := Lib.hid hb19
  clear hb19
  go_wp2_with fail
  refine (Lists.eqInt64S_yes _ _ P _ (L3.out.below HH19.out) (RS3.out.below (bl HSc.out (bl HcH.out HH19.out)))).mono ?_; rintro e w20 ⟨rfl, hb20⟩
  have Hc20 := Lib.hid (bl (bl HcH.out HH19.out) hb20)
  clear hb20 f0 f1 f2 f3 f4
  obtain ⟨z0, z1, z2, z3, z4⟩ := (FGc.out.below Hc20.out).parts
  go_wp2_with fail
  refine (heldClass_any _ _ _ S.length D.length _ _ (Mc1.out.rd.below Hc20.out) (Mc2.out.rd.below Hc20.out) (by omega) (by omega) (by omega) (by omega)).mono ?_; rintro e w21 ⟨rfl, hb21⟩
  have Hc21 := Lib.hid (bl Hc20.out hb21)
  clear hb21
  go_wp2_with fail
  refine (Helpers.heldInt64S_any _ P.length _ _ (Mc3.out.rd.below Hc21.out) (by omega) (by omega) (by omega)).mono ?_; rintro e w22 ⟨rfl, hb22⟩
  have Hc22 := Lib.hid (bl Hc21.out hb22)
  clear hb22 z0 z1 z2 z3 z4
  go_wp2_with fail
  go_ret
  exact ⟨rfl, bl HCS.out (bl HSc.out Hc22.out)⟩

set_option maxRecDepth 100000 in
theorem lifted (os : Os) (started : os.Started) (H : Type) (enc : TypeId × Value → H) :
    ReturnsInHanded {} Try.checked os 3 .any (Rows.fnExactPayIncomeSpec.pre6 enc Try.prog Try.f3 Rows.fnExactPayIncomeRow.domain false) (Rows.fnExactPayIncomeSpec.post enc Try.prog Try.f3 false true false false) := by
  refine returnsInHanded_of_change (C := Try.checked) own started (by kernel_rfl) Try.func3
    (ChangeSpec.witness6 (enc := enc) (C := Try.checked) false ⟨#[], #[.agg #[.slice none 0 0, .slice none 0 0, .int .i64 0], .int .i64 0], []⟩ 8 (by kernel_rfl) (by kernel_rfl) (by kernel_rfl) (by kernel_rfl)) ?_
  intro W base args ds gs before hval0 hW hcnd _
  have hval : ∀ (j : Nat) t v, Try.f3.params[j]? = some t → args[j]? = some v → Value.okWide Try.prog W .any base t v := hval0
  have hW' := hW
  obtain ⟨p, q, hA0, hV, rfl, hfz, hnd⟩ := hW
  have hA : DataW.TrodAll enc Try.prog W 0 (fun _ => true) true Try.f3.params.toList args.toList ds p := hA0
  rw [Try.params3] at hA hval
  obtain ⟨v0, vs0, d0, ds0, p0, q0, hargs, rfl, rfl, h0, r0⟩ := trodAll_cons hA
  obtain ⟨v1, vs1, d1, ds1, p1, q1, rfl, rfl, rfl, h1, r1⟩ := trodAll_cons r0
  obtain ⟨rfl, rfl, rfl⟩ := trodAll_nil r1
  obtain rfl : args = #[v0, v1] := by cases args; simp_all
  obtain ⟨rfl, rfl⟩ := trodVars_none hV
  have k0 := h0
  have lt0 : ∀ x ∈ p0, x.block < W.heap.size := by obtain ⟨m, hm⟩ := k0; exact DataW.trod_lt m _ _ _ hm
  obtain ⟨c0_0, c0_1, c0_2, y0_0, y0_1, y0_2, m0, hag0, _, _, hy0_0, hy0_1, hy0_2⟩ := Go.Joins.open_agg3 Try.underlying24 (by kernel_rfl) (by kernel_rfl) (hval 0 24 v0 rfl rfl) h0
  obtain ⟨a0_0, len0_0, cap0_0, z0_0, e0_0, w0_0⟩ : ∃ a l c zs, c0_0 = .slice a l c ∧ IsRow .i64 W a l c zs := by
    rcases open_ints Try.underlying22 Try.underlying2 (by kernel_rfl) hy0_0 with ⟨hcs, _⟩ | ⟨x, l, c, zs, hcs, _, hl, hm, hz, _, hcell, hwz⟩
    · simp at hcs
      exact ⟨none, 0, 0, [], hcs, .inl ⟨rfl, rfl, rfl, rfl⟩⟩
    · simp at hcs
      exact ⟨some x, l, c, zs, hcs, .inr ⟨_, rfl, hl, hm, by simpa using hz, hcell, hwz⟩⟩
  subst e0_0
  obtain ⟨a0_1, len0_1, cap0_1, z0_1, e0_1, w0_1⟩ : ∃ a l c zs, c0_1 = .slice a l c ∧ IsRow .i64 W a l c zs := by
    rcases open_ints Try.underlying22 Try.underlying2 (by kernel_rfl) hy0_1 with ⟨hcs, _⟩ | ⟨x, l, c, zs, hcs, _, hl, hm, hz, _, hcell, hwz⟩
    · simp at hcs
      exact ⟨none, 0, 0, [], hcs, .inl ⟨rfl, rfl, rfl, rfl⟩⟩
    · simp at hcs
      exact ⟨some x, l, c, zs, hcs, .inr ⟨_, rfl, hl, hm, by simpa using hz, hcell, hwz⟩⟩
  subst e0_1
  obtain ⟨f0_2, e0_2, _, wf0_2⟩ := DataW.trod_int Try.underlying2 hy0_2
  simp at e0_2
  subst e0_2
  subst hag0
  obtain ⟨a1, rfl, rfl, rfl, w1⟩ := open_int Try.underlying2 (hval 1 2 v1 rfl rfl) h1
  clear hA0 hval0
  refine (walk a0_0 len0_0 cap0_0 z0_0 a0_1 len0_1 cap0_1 z0_1 f0_2 a1 W w0_0 w0_1 wf0_2 w1).mono fun e W' ⟨he, bel⟩ => ?_
  subst he
  exact ⟨_, rfl, _, _, _, [], _, [], hW', trodAll_mk1 (shut_bool Try.underlying4 _), (trodAll_cons_mk (Below.trod laidOut (by kernel_rfl) (of_decide_eq_true (by kernel_rfl)) k0 bel lt0) (trodAll_cons_mk (shut_int Try.underlying2 w1) trodAll_mk0)), rfl, bel.frame _, fun h => by cases h⟩

theorem over : Rows.fnExactPayIncomeRow.holds Try.pinned (OpenSpec.ofChange Rows.fnExactPayIncomeSpec) :=
  OpenClaim.holds_of_wide 3 Try.f3 rfl rfl rfl rfl rfl rfl rfl ⟨rfl, rfl, rfl, rfl, rfl⟩ rfl rfl rfl rfl rfl (by kernel_rfl) Try.func3 (by kernel_rfl)
    (of_decide_eq_true (by kernel_rfl)) (by unfold Func.isWrapper; first | (rw [if_pos (by decide +kernel)]; kernel_rfl) | (rw [if_neg (by decide +kernel)]; exact ⟨rfl, rfl⟩))
    (fun os started H enc _ => lifted os started H enc)

theorem proved : Rows.FnExactPayIncomeSaid := over
end Go.Proofs.Ytenaeehefamdmaa.fnExactPayIncome
