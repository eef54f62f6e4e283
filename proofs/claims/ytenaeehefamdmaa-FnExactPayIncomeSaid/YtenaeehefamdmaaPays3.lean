/-
  Contracts of PayIncome of both packages.
  Conditions: none but that the class's slices read as lists.
-/
import Derived.Test.YtenaeehefamdmaaPays2
namespace Go.Proofs.Ytenaeehefamdmaa.Pays
open Go.RowKit Mem IsClasses Living Owns Concats
set_option linter.unusedVariables false

/-- What PayIncome gives, of whatever class and income. -/
def AllIs (sh de : List Int) (ch inc : Int) (S D P : List Int) (C K : Int) : Prop :=
  (clB sh de ch = true ∧ (0 ≤ inc ∧ inc ≤ 100000000) ∧ PayIs sh de ch inc S D P C K) ∨
  (clB sh de ch = true ∧ ¬ (0 ≤ inc ∧ inc ≤ 100000000) ∧ S = [] ∧ D = [] ∧ P = [] ∧ C = 0 ∧ K = 2) ∨
  (clB sh de ch = false ∧ S = [] ∧ D = [] ∧ P = [] ∧ C = 0 ∧ K = 1)
def PayOut (sh de : List Int) (ch inc : Int) (w : World) (e : Ending) (w' : World) : Prop := ∃ S D P C K u1 u2 p, AllIs sh de ch inc S D P C K ∧ e = .returned (.tuple #[.agg #[u1, u2, .int .i64 C], p, .int .i64 K]) ∧ Lies w.heap.size w' u1 u2 p S D P ∧ Below w.heap.size w w'
theorem lies_nil (B : Nat) (w : World) : Lies B w (.slice none 0 0) (.slice none 0 0) (.slice none 0 0) [] [] [] :=
  ⟨.inl ⟨rfl, rfl⟩, .inl ⟨rfl, rfl⟩, .inl ⟨rfl, rfl⟩, (fun k e => by cases e), (fun k e => by cases e), (fun k e => by cases e)⟩
theorem payIs_one {sh de : List Int} {ch inc : Int} {S D P S' D' P' : List Int} {C K C' K' : Int} (h : PayIs sh de ch inc S D P C K) (g : PayIs sh de ch inc S' D' P' C' K') : S = S' ∧ D = D' ∧ P = P' ∧ C = C' ∧ K = K' := by
  rcases h with ⟨a, rfl, rfl, rfl, rfl, rfl⟩ | ⟨a, a2, rfl, rfl, rfl, rfl, rfl⟩ | ⟨a, a2, rfl, rfl, rfl, rfl, rfl⟩ <;>
  rcases g with ⟨b, rfl, rfl, rfl, rfl, rfl⟩ | ⟨b, b2, rfl, rfl, rfl, rfl, rfl⟩ | ⟨b, b2, rfl, rfl, rfl, rfl, rfl⟩ <;>
  first | exact ⟨rfl, rfl, rfl, rfl, rfl⟩ | (exfalso; omega)
theorem allIs_one {sh de : List Int} {ch inc : Int} {S D P S' D' P' : List Int} {C K C' K' : Int} (h : AllIs sh de ch inc S D P C K) (g : AllIs sh de ch inc S' D' P' C' K') : S = S' ∧ D = D' ∧ P = P' ∧ C = C' ∧ K = K' := by
  rcases h with ⟨a, a2, h⟩ | ⟨a, a2, rfl, rfl, rfl, rfl, rfl⟩ | ⟨a, rfl, rfl, rfl, rfl, rfl⟩ <;>
  rcases g with ⟨b, b2, g⟩ | ⟨b, b2, rfl, rfl, rfl, rfl, rfl⟩ | ⟨b, rfl, rfl, rfl, rfl, rfl⟩ <;>
  first | exact payIs_one h g | exact ⟨rfl, rfl, rfl, rfl, rfl⟩ | exact absurd a2 b2 | exact absurd b2 a2 | (rw [a] at b; cases b; done)

set_option maxHeartbeats 2000000 in
set_option maxRecDepth 100000 in
theorem specPayIncome_any (ch inc : Int) (v1 v2 : Value) (sh de : List Int) (w : World) (h1 : Rd w v1 sh) (h2 : Rd w v2 de) :
    Calls Try.prog 7 #[.agg #[v1, v2, .int .i64 ch], .int .i64 inc] w (PayOut sh de ch inc w) := by
  have R1 := Lib.hid h1
  have R2 := Lib.hid h2
  obtain ⟨a1, c1, rfl, _⟩ := rd_shape h1
  obtain ⟨a2, c2, rfl, _⟩ := rd_shape h2
  have IC := Lib.hid (fun w h1 h2 => specIsClass_any ch (.slice a1 sh.length c1) (.slice a2 de.length c2) sh de w h1 h2)
  clear h1 h2
  obtain ⟨wA, hA, HBx, HRx, HB0⟩ : ∃ wA : World, Hid (wA = (w.alloc (.cells #[.slice a1 sh.length c1, .slice a2 de.length c2, .int .i64 ch] 26)).alloc (.cells #[.slice none 0 0, .slice none 0 0, .int .i64 0] 26)) ∧ Hid (FBox wA w.heap.size (.slice a1 sh.length c1) (.slice a2 de.length c2) (.int .i64 ch)) ∧ Hid (FBox wA (w.heap.size + 1) (.slice none 0 0) (.slice none 0 0) (.int .i64 0)) ∧ Hid (Below w.heap.size w wA) :=
    ⟨_, rfl, (fbox_new w _ _ _).below (b0 _ _), by have := fbox_new (w.alloc (.cells #[.slice a1 sh.length c1, .slice a2 de.length c2, .int .i64 ch] 26)) (.slice none 0 0) (.slice none 0 0) (.int .i64 0); rw [show (w.alloc (.cells #[.slice a1 sh.length c1, .slice a2 de.length c2, .int .i64 ch] 26)).heap.size = w.heap.size + 1 by simp] at this; exact this, bl (b0 _ _) (b0 _ _)⟩
  have hAz : Hid (wA.heap.size = w.heap.size + 1 + 1) := by show _ = _; rw [hA.out]; simp
  cases hcl : clB sh de ch with
  | false =>
    have R : Hid (AllIs sh de ch inc [] [] [] 0 1) := .inr (.inr ⟨hcl, rfl, rfl, rfl, rfl, rfl⟩)
    rw [hcl] at IC
    clear hcl
    go_enter Try.func7, Try.ntmps7
    go_wp2_with fail
    rw [← hA.out]
    refine (IC.out _ (R1.out.below HB0.out) (R2.out.below HB0.out)).mono ?_; rintro e w1 ⟨rfl, hb1⟩
    have HB1 := Lib.hid hb1
    obtain ⟨r0, r1, r2, r3, r4⟩ := (HRx.out.below hb1).parts
    clear hb1
    go_wp2_with fail
    refine bodyPost_ret (v := .tuple #[.agg #[.slice none 0 0, .slice none 0 0, .int .i64 0], .slice none 0 0, .int .i64 1]) (by simp [results, Try.results7, go_sem, r0, r1, r2]) rfl ?_
    refine ⟨[], [], [], 0, 1, _, _, _, R.out, rfl, lies_nil _ _, ?_⟩
    repeat (refine Below.setCell ?_ (by simp <;> omega) _)
    exact bl HB0.out HB1.out
  | true =>
    have CL := Lib.hid (clB_of hcl)
    rw [hcl] at IC
    have HC := Lib.hid hcl
    clear hcl
    by_cases hin : 0 ≤ inc ∧ inc ≤ 100000000
    · obtain ⟨i0, i1⟩ := hin
      obtain ⟨⟨k1, k2⟩, k3, k4, ⟨k5, k6⟩, k7⟩ := CL.out
      have k8 := incr_len k7 k4
      have PY := Lib.hid (fun w h1 h2 => l13Pay_any ch inc (.slice a1 sh.length c1) (.slice a2 de.length c2) sh de w h1 h2 k1 k2 (by omega) k3 k5 k6 i0 i1)
      clear k3 k4 k7
      go_enter Try.func7, Try.ntmps7
      go_wp2_with fail
      rw [← hA.out]
      refine (IC.out _ (R1.out.below HB0.out) (R2.out.below HB0.out)).mono ?_; rintro e w1 ⟨rfl, hb1⟩
      have HB1 := Lib.hid hb1
      obtain ⟨x0, x1, x2, x3, x4⟩ := (HBx.out.below hb1).parts
      clear hb1
      go_wp2_with (first
      | (go_at_call 25; refine (Base.l01In_yes _ _ _ _ (by omega) (by omega)).mono ?_; rintro e w' ⟨rfl, rfl⟩)
      | (go_at_call 25; refine (Base.l01In_no _ _ _ _ (by omega)).mono ?_; rintro e w' ⟨rfl, rfl⟩)
      | (go_at_call 33; refine (Base.inRange_yes _ _ _ _ (by omega) (by omega)).mono ?_; rintro e w' ⟨rfl, rfl⟩)
      | (go_at_call 33; refine (Base.inRange_no _ _ _ _ (by omega)).mono ?_; rintro e w' ⟨rfl, rfl⟩)
     )
      refine (PY.out _ (R1.out.below (bl HB0.out HB1.out)) (R2.out.below (bl HB0.out HB1.out))).mono ?_
      rintro e w2 ⟨S, D, P, C, K, u1, u2, p, hpi, rfl, hl, hb2⟩
      obtain ⟨p1, q1, rfl⟩ := sl_shape hl.1
      obtain ⟨p2, q2, rfl⟩ := sl_shape hl.2.1
      obtain ⟨p3, q3, rfl⟩ := sl_shape hl.2.2.1
      have HPI := Lib.hid hpi
      have HL := Lib.hid hl
      have HB2 := Lib.hid (bl HB1.out hb2)
      obtain ⟨r0, r1, r2, r3, r4⟩ := (HRx.out.below HB2.out).parts
      have hz1 : wA.heap.size ≤ w1.heap.size := HB1.out.size
      clear hpi hl hb2 x0 x1 x2 x3 x4
      go_wp2_with fail
      refine bodyPost_ret (v := .tuple #[.agg #[.slice p1 S.length q1, .slice p2 D.length q2, .int .i64 C], .slice p3 P.length q3, .int .i64 K]) (by simp [results, Try.results7, go_sem, r0, r1, r2]) rfl ?_
      obtain ⟨l1, l2, l3, l4, l5, l6⟩ := HL.out
      refine ⟨S, D, P, C, K, _, _, _, .inl ⟨HC.out, ⟨i0, i1⟩, HPI.out⟩, rfl, ⟨?_, ?_, ?_, l4, l5, l6⟩, ?_⟩
      · refine sl_mono (B := w1.heap.size) (by have := hAz.out; omega) ?_
        repeat (refine sl_setCell ?_ (by have := hAz.out; simp; omega) _)
        exact l1
      · refine sl_mono (B := w1.heap.size) (by have := hAz.out; omega) ?_
        repeat (refine sl_setCell ?_ (by have := hAz.out; simp; omega) _)
        exact l2
      · refine sl_mono (B := w1.heap.size) (by have := hAz.out; omega) ?_
        repeat (refine sl_setCell ?_ (by have := hAz.out; simp; omega) _)
        exact l3
      · repeat (refine Below.setCell ?_ (by simp <;> omega) _)
        exact bl HB0.out HB2.out
    · have R : Hid (AllIs sh de ch inc [] [] [] 0 2) := .inr (.inl ⟨HC.out, hin, rfl, rfl, rfl, rfl, rfl⟩)
      have hin2 : inc < 0 ∨ 100000000 < inc := by omega
      clear hin
      go_enter Try.func7, Try.ntmps7
      go_wp2_with fail
      rw [← hA.out]
      refine (IC.out _ (R1.out.below HB0.out) (R2.out.below HB0.out)).mono ?_; rintro e w1 ⟨rfl, hb1⟩
      have HB1 := Lib.hid hb1
      obtain ⟨r0, r1, r2, r3, r4⟩ := (HRx.out.below hb1).parts
      clear hb1
      go_wp2_with (first
      | (go_at_call 25; refine (Base.l01In_yes _ _ _ _ (by omega) (by omega)).mono ?_; rintro e w' ⟨rfl, rfl⟩)
      | (go_at_call 25; refine (Base.l01In_no _ _ _ _ (by omega)).mono ?_; rintro e w' ⟨rfl, rfl⟩)
      | (go_at_call 33; refine (Base.inRange_yes _ _ _ _ (by omega) (by omega)).mono ?_; rintro e w' ⟨rfl, rfl⟩)
      | (go_at_call 33; refine (Base.inRange_no _ _ _ _ (by omega)).mono ?_; rintro e w' ⟨rfl, rfl⟩)
     )
      refine bodyPost_ret (v := .tuple #[.agg #[.slice none 0 0, .slice none 0 0, .int .i64 0], .slice none 0 0, .int .i64 2]) (by simp [results, Try.results7, go_sem, r0, r1, r2]) rfl ?_
      refine ⟨[], [], [], 0, 2, _, _, _, R.out, rfl, lies_nil _ _, ?_⟩
      repeat (refine Below.setCell ?_ (by simp <;> omega) _)
      exact bl HB0.out HB1.out
theorem raw_yes {sh de P : List Int} {ch inc C : Int} (h : RawIs sh de ch inc P C true) : PayIs sh de ch inc sh de P C 0 := by
  rcases h with ⟨a, b, c, _⟩ | ⟨a, b, c, d⟩
  · exact .inl ⟨a, rfl, rfl, b, c, rfl⟩
  · exact .inr (.inl ⟨a, of_decide_eq_true d.symm, rfl, rfl, b, c, rfl⟩)
theorem raw_no {sh de P : List Int} {ch inc C : Int} (h : RawIs sh de ch inc P C false) : PayIs sh de ch inc [] [] [] 0 3 := by
  rcases h with ⟨a, b, c, d⟩ | ⟨a, b, c, d⟩
  · cases d
  · have := of_decide_eq_false d.symm
    exact .inr (.inr ⟨a, by omega, rfl, rfl, rfl, rfl, rfl⟩)
set_option maxHeartbeats 2000000 in
set_option maxRecDepth 100000 in
theorem implPayIncome_any (ch inc : Int) (v1 v2 : Value) (sh de : List Int) (w : World) (h1 : Rd w v1 sh) (h2 : Rd w v2 de) :
    Calls Try.prog 9 #[.agg #[v1, v2, .int .i64 ch], .int .i64 inc] w (PayOut sh de ch inc w) := by
  have R1 := Lib.hid h1
  have R2 := Lib.hid h2
  obtain ⟨a1, c1, rfl, _⟩ := rd_shape h1
  obtain ⟨a2, c2, rfl, _⟩ := rd_shape h2
  have IC := Lib.hid (fun w h1 h2 => implIsClass_any ch (.slice a1 sh.length c1) (.slice a2 de.length c2) sh de w h1 h2)
  clear h1 h2
  obtain ⟨wA, hA, HBx, HRx, HB0⟩ : ∃ wA : World, Hid (wA = (w.alloc (.cells #[.slice a1 sh.length c1, .slice a2 de.length c2, .int .i64 ch] 26)).alloc (.cells #[.slice none 0 0, .slice none 0 0, .int .i64 0] 26)) ∧ Hid (FBox wA w.heap.size (.slice a1 sh.length c1) (.slice a2 de.length c2) (.int .i64 ch)) ∧ Hid (FBox wA (w.heap.size + 1) (.slice none 0 0) (.slice none 0 0) (.int .i64 0)) ∧ Hid (Below w.heap.size w wA) :=
    ⟨_, rfl, (fbox_new w _ _ _).below (b0 _ _), by have := fbox_new (w.alloc (.cells #[.slice a1 sh.length c1, .slice a2 de.length c2, .int .i64 ch] 26)) (.slice none 0 0) (.slice none 0 0) (.int .i64 0); rw [show (w.alloc (.cells #[.slice a1 sh.length c1, .slice a2 de.length c2, .int .i64 ch] 26)).heap.size = w.heap.size + 1 by simp] at this; exact this, bl (b0 _ _) (b0 _ _)⟩
  have hAz : Hid (wA.heap.size = w.heap.size + 1 + 1) := by show _ = _; rw [hA.out]; simp
  cases hcl : clB sh de ch with
  | false =>
    have R : Hid (AllIs sh de ch inc [] [] [] 0 1) := .inr (.inr ⟨hcl, rfl, rfl, rfl, rfl, rfl⟩)
    rw [hcl] at IC
    clear hcl
    go_enter Try.func9, Try.ntmps9
    go_wp2_with fail
    rw [← hA.out]
    refine (IC.out _ (R1.out.below HB0.out) (R2.out.below HB0.out)).mono ?_; rintro e w1 ⟨rfl, hb1⟩
    have HB1 := Lib.hid hb1
    obtain ⟨r0, r1, r2, r3, r4⟩ := (HRx.out.below hb1).parts
    clear hb1
    go_wp2_with fail
    refine bodyPost_ret (v := .tuple #[.agg #[.slice none 0 0, .slice none 0 0, .int .i64 0], .slice none 0 0, .int .i64 1]) (by simp [results, Try.results9, go_sem, r0, r1, r2]) rfl ?_
    refine ⟨[], [], [], 0, 1, _, _, _, R.out, rfl, lies_nil _ _, ?_⟩
    repeat (refine Below.setCell ?_ (by simp <;> omega) _)
    exact bl HB0.out HB1.out
  | true =>
    have CL := Lib.hid (clB_of hcl)
    rw [hcl] at IC
    have HC := Lib.hid hcl
    clear hcl
    by_cases hin : 0 ≤ inc ∧ inc ≤ 100000000
    · obtain ⟨i0, i1⟩ := hin
      obtain ⟨⟨k1, k2⟩, k3, k4, ⟨k5, k6⟩, k7⟩ := CL.out
      have k8 := incr_len k7 k4
      have PY := Lib.hid (fun w h1 h2 => pay_any ch inc (.slice a1 sh.length c1) (.slice a2 de.length c2) sh de w h1 h2 k1 k2 (by omega) k3 k5 k6 i0 i1)
      clear k3 k4 k7
      go_enter Try.func9, Try.ntmps9
      go_wp2_with fail
      rw [← hA.out]
      refine (IC.out _ (R1.out.below HB0.out) (R2.out.below HB0.out)).mono ?_; rintro e w1 ⟨rfl, hb1⟩
      have HB1 := Lib.hid hb1
      obtain ⟨x0, x1, x2, x3, x4⟩ := (HBx.out.below hb1).parts
      clear hb1
      go_wp2_with (first
      | (go_at_call 25; refine (Base.l01In_yes _ _ _ _ (by omega) (by omega)).mono ?_; rintro e w' ⟨rfl, rfl⟩)
      | (go_at_call 25; refine (Base.l01In_no _ _ _ _ (by omega)).mono ?_; rintro e w' ⟨rfl, rfl⟩)
      | (go_at_call 33; refine (Base.inRange_yes _ _ _ _ (by omega) (by omega)).mono ?_; rintro e w' ⟨rfl, rfl⟩)
      | (go_at_call 33; refine (Base.inRange_no _ _ _ _ (by omega)).mono ?_; rintro e w' ⟨rfl, rfl⟩)
      | (go_at_call 28; go_in))
      refine (PY.out _ (R1.out.below (bl HB0.out HB1.out)) (R2.out.below (bl HB0.out HB1.out))).mono ?_
      rintro e w2 ⟨P, C, ok, u1, u2, p, rfl, hl, hb2, hraw⟩
      obtain ⟨p1, q1, rfl⟩ := sl_shape hl.1
      obtain ⟨p2, q2, rfl⟩ := sl_shape hl.2.1
      obtain ⟨p3, q3, rfl⟩ := sl_shape hl.2.2.1
      have HRAW := Lib.hid hraw
      have HL := Lib.hid hl
      have HB2 := Lib.hid (bl HB1.out hb2)
      obtain ⟨r0, r1, r2, r3, r4⟩ := (HRx.out.below HB2.out).parts
      have hz1 : wA.heap.size ≤ w1.heap.size := HB1.out.size
      clear hraw hl hb2 x0 x1 x2 x3 x4
      cases ok with
      | true =>
        go_wp2_with fail
        refine bodyPost_ret (v := .tuple #[.agg #[.slice p1 sh.length q1, .slice p2 de.length q2, .int .i64 C], .slice p3 P.length q3, .int .i64 0]) (by simp [results, Try.results9, go_sem, r0, r1, r2, r4]) rfl ?_
        obtain ⟨l1, l2, l3, l4, l5, l6⟩ := HL.out
        refine ⟨sh, de, P, C, 0, _, _, _, .inl ⟨HC.out, ⟨i0, i1⟩, raw_yes HRAW.out⟩, rfl, ⟨?_, ?_, ?_, l4, l5, l6⟩, ?_⟩
        · refine sl_mono (B := w1.heap.size) (by have := hAz.out; omega) ?_
          refine Sl.below ?_ (b0 _ _)
          repeat (refine sl_setCell ?_ (by have := hAz.out; simp; omega) _)
          exact l1
        · refine sl_mono (B := w1.heap.size) (by have := hAz.out; omega) ?_
          refine Sl.below ?_ (b0 _ _)
          repeat (refine sl_setCell ?_ (by have := hAz.out; simp; omega) _)
          exact l2
        · refine sl_mono (B := w1.heap.size) (by have := hAz.out; omega) ?_
          refine Sl.below ?_ (b0 _ _)
          repeat (refine sl_setCell ?_ (by have := hAz.out; simp; omega) _)
          exact l3
        · refine bl ?_ (b0 _ _)
          repeat (refine Below.setCell ?_ (by simp <;> omega) _)
          exact bl HB0.out HB2.out
      | false =>
        go_wp2_with fail
        refine bodyPost_ret (v := .tuple #[.agg #[.slice none 0 0, .slice none 0 0, .int .i64 0], .slice none 0 0, .int .i64 3]) (by simp [results, Try.results9, go_sem, r0, r1, r2, r4]) rfl ?_
        refine ⟨[], [], [], 0, 3, _, _, _, .inl ⟨HC.out, ⟨i0, i1⟩, raw_no HRAW.out⟩, rfl, lies_nil _ _, ?_⟩
        refine bl ?_ (b0 _ _)
        repeat (refine Below.setCell ?_ (by simp <;> omega) _)
        exact bl HB0.out HB2.out
    · have R : Hid (AllIs sh de ch inc [] [] [] 0 2) := .inr (.inl ⟨HC.out, hin, rfl, rfl, rfl, rfl, rfl⟩)
      have hin2 : inc < 0 ∨ 100000000 < inc := by omega
      clear hin
      go_enter Try.func9, Try.ntmps9
      go_wp2_with fail
      rw [← hA.out]
      refine (IC.out _ (R1.out.below HB0.out) (R2.out.below HB0.out)).mono ?_; rintro e w1 ⟨rfl, hb1⟩
      have HB1 := Lib.hid hb1
      obtain ⟨r0, r1, r2, r3, r4⟩ := (HRx.out.below hb1).parts
      clear hb1
      go_wp2_with (first
      | (go_at_call 25; refine (Base.l01In_yes _ _ _ _ (by omega) (by omega)).mono ?_; rintro e w' ⟨rfl, rfl⟩)
      | (go_at_call 25; refine (Base.l01In_no _ _ _ _ (by omega)).mono ?_; rintro e w' ⟨rfl, rfl⟩)
      | (go_at_call 33; refine (Base.inRange_yes _ _ _ _ (by omega) (by omega)).mono ?_; rintro e w' ⟨rfl, rfl⟩)
      | (go_at_call 33; refine (Base.inRange_no _ _ _ _ (by omega)).mono ?_; rintro e w' ⟨rfl, rfl⟩)
      | (go_at_call 28; go_in))
      refine bodyPost_ret (v := .tuple #[.agg #[.slice none 0 0, .slice none 0 0, .int .i64 0], .slice none 0 0, .int .i64 2]) (by simp [results, Try.results9, go_sem, r0, r1, r2]) rfl ?_
      refine ⟨[], [], [], 0, 2, _, _, _, R.out, rfl, lies_nil _ _, ?_⟩
      repeat (refine Below.setCell ?_ (by simp <;> omega) _)
      exact bl HB0.out HB1.out
end Go.Proofs.Ytenaeehefamdmaa.Pays
