/-
  Contracts of SickWeeks of both packages.
  Conditions: both slices read as lists (Mem.Rd).
-/
import Derived.Test.YtochnbljjlloiaaSickTables
import Derived.Test.YtochnbljjlloiaaRound
import Derived.Deep.RegionHeld3
namespace Go.Proofs.Ytochnbljjlloiaa.SickSums
open Go.RowKit Mem
open SickTables (skB skB_of wk)
set_option linter.unusedVariables false

theorem rd_cell {w wr : World} {b off : Nat} {cap : Nat} {xs : List Int} (hbl : b < w.heap.size) (hb : Below w.heap.size w wr) (hx : ∀ i, i < xs.length → w.cell? ⟨b, off + i, none⟩ = some (.int .i64 (xs.getD i 0))) (i : Nat) (hi : i < xs.length) : wr.cell? ⟨b, off + i, none⟩ = some (.int .i64 (xs.getD i 0)) :=
  (hb.cell (p := ⟨b, off + i, none⟩) hbl).trans (hx i hi)

/-- The weeks of the first k of some ages. -/
def sw (f : Int) (xs ys : List Int) : Nat → Int
  | 0 => 0
  | k + 1 => sw f xs ys k + wk f xs (ys.getD k 0)
theorem wk_bd {f : Int} {xs : List Int} (h : within 0 52000 xs = true) (age : Int) : 0 ≤ wk f xs age ∧ wk f xs age ≤ 52000 := by
  unfold wk
  split
  · rename_i c
    exact within_get h _ (by omega)
  · omega
theorem sw_bd {f : Int} {xs : List Int} (h : within 0 52000 xs = true) (ys : List Int) (k : Nat) : 0 ≤ sw f xs ys k ∧ sw f xs ys k ≤ 52000 * k := by
  induction k with
  | zero => simp [sw]
  | succ k ih =>
    have := wk_bd (f := f) h (ys.getD k 0)
    show 0 ≤ sw f xs ys k + wk f xs (ys.getD k 0) ∧ sw f xs ys k + wk f xs (ys.getD k 0) ≤ _
    omega
def agesOk (ys : List Int) : Bool := within 0 150 ys && decide (ys.length ≤ 130)
theorem ages_of {ys : List Int} (h : agesOk ys = true) : within 0 150 ys = true ∧ ys.length ≤ 130 := by simpa [agesOk] using h
theorem ages_not {ys : List Int} (h : ¬ agesOk ys = true) : within 0 150 ys = false ∨ 130 < ys.length := by
  cases hw : within 0 150 ys with
  | false => exact .inl rfl
  | true => right; simp [agesOk, hw] at h; omega
def swV (f : Int) (xs ys : List Int) : Int := if skB f xs then (if agesOk ys then Plain.upq (sw f xs ys ys.length) 1000 else 0) else 0
def swC (f : Int) (xs ys : List Int) : Int := if skB f xs then (if agesOk ys then 0 else 2) else 1

set_option maxHeartbeats 1000000 in
theorem specSickWeeks_any (f : Int) (v u : Value) (xs ys : List Int) (w : World) (h : Rd w v xs) (g : Rd w u ys) :
    Calls Try.prog 48 #[.agg #[.int .i64 f, v], u] w fun e w' => e = .returned (.tuple #[.int .i64 (swV f xs ys), .int .i64 (swC f xs ys)]) ∧ Below w.heap.size w w' := by
  have H := Lib.hid h
  have G := Lib.hid g
  obtain ⟨a, c, rfl, hn⟩ := rd_shape h
  have HX := Lib.hid (box2_new w (.int .i64 f) (.slice a xs.length c))
  clear h
  cases hk : skB f xs with
  | false =>
    obtain ⟨a2, c2, rfl, hn2⟩ := rd_shape g
    have V : Hid (swV f xs ys = 0) := by show _ = _; unfold swV; rw [hk]; rfl
    have C : Hid (swC f xs ys = 1) := by show _ = _; unfold swC; rw [hk]; rfl
    have HK := Lib.hid hk
    clear hk g
    go_enter Try.func48, Try.ntmps48
    go_wp2_with fail
    refine (SickTables.specIsSickTable_any _ _ xs _ (H.out.below (b0 _ _))).mono ?_; rintro e w1 ⟨rfl, hb1⟩; rw [HK.out]
    obtain ⟨x1, x2, x3⟩ := (HX.out _).below hb1
    go_wp2
    go_ret2
    exact ⟨Base.ret_ii V.out.symm C.out.symm, bl (b0 _ _) hb1⟩
  | true =>
    have HQ := Lib.hid (skB_of hk)
    have HK := Lib.hid hk
    by_cases hc : agesOk ys = true
    case neg =>
      obtain ⟨a2, c2, rfl, hn2⟩ := rd_shape g
      have V : Hid (swV f xs ys = 0) := by show _ = _; unfold swV; rw [hk, if_pos rfl, if_neg hc]
      have C : Hid (swC f xs ys = 2) := by show _ = _; unfold swC; rw [hk, if_pos rfl, if_neg hc]
      have hno := ages_not hc
      have HN : Hid (within 0 150 ys = false ∨ (130 : Int) < (ys.length : Int)) := by
        rcases hno with h | h
        · exact .inl h
        · exact .inr (by omega)
      clear hk hc g hno
      go_enter Try.func48, Try.ntmps48
      go_wp2_with fail
      refine (SickTables.specIsSickTable_any _ _ xs _ (H.out.below (b0 _ _))).mono ?_; rintro e w1 ⟨rfl, hb1⟩; rw [HK.out]
      obtain ⟨x1, x2, x3⟩ := (HX.out _).below hb1
      have HB1 := Lib.hid (bl (b0 _ _) hb1)
      go_wp2_with fail
      refine (Lists.l01Within_no _ ys _ _ _ _ (G.out.below HB1.out) HN.out).mono ?_; rintro e w2 ⟨rfl, hb2⟩
      go_wp2
      go_ret2
      exact ⟨Base.ret_ii V.out.symm C.out.symm, bl HB1.out hb2⟩
    obtain ⟨hw, hl⟩ := ages_of hc
    have V : Hid (swV f xs ys = Plain.upq (sw f xs ys ys.length) 1000) := by show _ = _; unfold swV; rw [hk, if_pos rfl, if_pos hc]
    have C : Hid (swC f xs ys = 0) := by show _ = _; unfold swC; rw [hk, if_pos rfl, if_pos hc]
    have HW := Lib.hid hw
    have WG := Lib.hid (fun i hi => within_get hw i hi)
    have SB := Lib.hid (fun k => sw_bd (f := f) HQ.out.2.2 ys k)
    have WB := Lib.hid (fun age => wk_bd (f := f) HQ.out.2.2 age)
    obtain ⟨⟨f1, f2⟩, ⟨n1, n2⟩, _⟩ := HQ.out
    have hd1 : decide (130 < (ys.length : Int)) = false := by simp; omega
    clear hk hc hw
    rcases g with ⟨rfl, rfl⟩ | ⟨b, off, cap, rfl, hn', hl', hm, hbl, hx⟩
    · go_enter Try.func48, Try.ntmps48
      go_wp2_with fail
      refine (SickTables.specIsSickTable_any _ _ xs _ (H.out.below (b0 _ _))).mono ?_; rintro e w1 ⟨rfl, hb1⟩; rw [HK.out]
      obtain ⟨x1, x2, x3⟩ := (HX.out _).below hb1
      have HB1 := Lib.hid (bl (b0 _ _) hb1)
      go_wp2_with fail
      refine (Lists.l01Within_yes _ _ _ _ _ _ (G.out.below HB1.out) HW.out (by omega)).mono ?_; rintro e w2 ⟨rfl, hb2⟩
      have u0 : Plain.upq 0 1000 = 0 := by decide
      go_wp2
      refine wp_loop_rounds 1 ?_; rw [rounds_succ]
      go_wp2_with (first | (go_at_call 73; refine (Round.l01Up_any _ _ _ (by omega) (by omega) (by omega) (by omega)).mono ?_; rintro e w9 ⟨rfl, rfl⟩))
      go_ret2
      exact ⟨Base.ret_ii (by rw [V.out]; rfl) C.out.symm, bl HB1.out hb2⟩
    · have HD := Lib.hid hx
      clear hx
      go_enter Try.func48, Try.ntmps48
      go_wp2_with fail
      refine (SickTables.specIsSickTable_any _ _ xs _ (H.out.below (b0 _ _))).mono ?_; rintro e w1 ⟨rfl, hb1⟩; rw [HK.out]
      have HX1 := Lib.hid ((HX.out _).below hb1)
      obtain ⟨x1, x2, x3⟩ := HX1.out
      have HB1 := Lib.hid (bl (b0 _ _) hb1)
      go_wp2_with fail
      refine (Lists.l01Within_yes _ ys _ _ _ _ (G.out.below HB1.out) HW.out (by omega)).mono ?_; rintro e w2 ⟨rfl, hb2⟩
      have HX2 := Lib.hid (HX1.out.below hb2)
      have HB2 := Lib.hid (bl HB1.out hb2)
      clear hb1 hb2
      go_wp2
      go_loopw [6, 7] (fun s i wr => ∃ k : Nat, k ≤ ys.length ∧ i = .int .i64 k ∧ s = .int .i64 (sw f xs ys k) ∧ Hid (Below w.heap.size w wr) ∧ Hid (Box2 wr w.heap.size (.int .i64 f) (.slice a xs.length c))) (fun _ i _ => ys.length - (intOf i).toNat)
      case atStart => exact ⟨0, by omega, rfl, rfl, HB2.out, HX2.out⟩
      case round =>
        obtain ⟨k, hk, rfl, rfl, HB, HX3⟩ := hrel
        obtain ⟨y1, y2, y3⟩ := HX3.out
        have hlb := SB.out k
        by_cases hlt : k < ys.length
        · have HCK := Lib.hid (fun (w' : World) (h : Below w.heap.size w w') => rd_cell (cap := cap) hbl h HD.out k hlt)
          have hck := HCK.out _ HB.out
          have hg := WG.out k hlt
          have hwb := WB.out (ys.getD k 0)
          have E : Hid (sw f xs ys (k + 1) = sw f xs ys k + wk f xs (ys.getD k 0)) := rfl
          have hki : (k : Int) < (ys.length : Int) := by omega
          generalize ys.getD k 0 = age at *
          obtain ⟨ag1, ag2⟩ := hg
          go_wp2
          go_region_held3 (fun w' => w'.cell? ⟨w.heap.size, 0, none⟩ = some (.int .i64 f) ∧ w'.cell? ⟨w.heap.size, 1, none⟩ = some (.slice a xs.length c) ∧ w'.cell? ⟨b, off + k, none⟩ = some (.int .i64 age)) (go_keep)
            (first | (go_at_call 69; refine (SickTables.specWeeks_any f _ xs age _ (H.out.below HB.out.drew) (by omega) (by omega) (by omega) (by omega) (by omega)).mono ?_; rintro e w5 ⟨rfl, hb5d⟩; have hb5 := undrew hb5d; obtain ⟨z1, z2, z3⟩ := HX3.out.below hb5; have HB5 := Lib.hid (bl HB.out hb5); have HX5 := Lib.hid (HX3.out.below hb5); have hck5 := HCK.out _ HB5.out))
          go_wp2
          go_roundw
          case rel => exact ⟨k + 1, by omega, by go_num, by first | (rw [E.out]; done) | (rw [E.out, show IntKind.i64.wrap (sw f xs ys k + wk f xs age) = sw f xs ys k + wk f xs age from IntWalk.i64_in _ (by omega)]), HB5.out, HX5.out⟩
          case measure => simp [intOf]; omega
        · obtain rfl : k = ys.length := by omega
          obtain ⟨u1, u2⟩ := Plain.upq_bd (sw f xs ys ys.length) 1000 hlb.1 (by omega)
          go_wp2_with (first | (go_at_call 73; refine (Round.l01Up_any _ _ _ (by omega) (by omega) (by omega) (by omega)).mono ?_; rintro e w9 ⟨rfl, rfl⟩))
          go_ret2
          exact ⟨Base.ret_ii V.out.symm C.out.symm, HB.out⟩

set_option maxHeartbeats 1000000 in
theorem implSickWeeks_any (f : Int) (v u : Value) (xs ys : List Int) (w : World) (h : Rd w v xs) (g : Rd w u ys) :
    Calls Try.prog 49 #[.agg #[.int .i64 f, v], u] w fun e w' => e = .returned (.tuple #[.int .i64 (swV f xs ys), .int .i64 (swC f xs ys)]) ∧ Below w.heap.size w w' := by
  have H := Lib.hid h
  have G := Lib.hid g
  obtain ⟨a, c, rfl, hn⟩ := rd_shape h
  have HX := Lib.hid (box2_new w (.int .i64 f) (.slice a xs.length c))
  clear h
  cases hk : skB f xs with
  | false =>
    obtain ⟨a2, c2, rfl, hn2⟩ := rd_shape g
    have V : Hid (swV f xs ys = 0) := by show _ = _; unfold swV; rw [hk]; rfl
    have C : Hid (swC f xs ys = 1) := by show _ = _; unfold swC; rw [hk]; rfl
    have HK := Lib.hid hk
    clear hk g
    go_enter Try.func49, Try.ntmps49
    go_wp2_with fail
    refine (SickTables.implIsSickTable_any _ _ xs _ (H.out.below (b0 _ _))).mono ?_; rintro e w1 ⟨rfl, hb1⟩; rw [HK.out]
    obtain ⟨x1, x2, x3⟩ := (HX.out _).below hb1
    go_wp2
    go_ret2
    exact ⟨Base.ret_ii V.out.symm C.out.symm, bl (b0 _ _) hb1⟩
  | true =>
    have HQ := Lib.hid (skB_of hk)
    have HK := Lib.hid hk
    by_cases hc : agesOk ys = true
    case neg =>
      obtain ⟨a2, c2, rfl, hn2⟩ := rd_shape g
      have V : Hid (swV f xs ys = 0) := by show _ = _; unfold swV; rw [hk, if_pos rfl, if_neg hc]
      have C : Hid (swC f xs ys = 2) := by show _ = _; unfold swC; rw [hk, if_pos rfl, if_neg hc]
      have hno := ages_not hc
      by_cases hl : 130 < ys.length
      · clear hk hc g hno
        go_enter Try.func49, Try.ntmps49
        go_wp2_with fail
        refine (SickTables.implIsSickTable_any _ _ xs _ (H.out.below (b0 _ _))).mono ?_; rintro e w1 ⟨rfl, hb1⟩; rw [HK.out]
        obtain ⟨x1, x2, x3⟩ := (HX.out _).below hb1
        go_wp2
        go_ret2
        exact ⟨Base.ret_ii V.out.symm C.out.symm, bl (b0 _ _) hb1⟩
      · have HW := Lib.hid (hno.resolve_right hl)
        clear hk hc g hno
        go_enter Try.func49, Try.ntmps49
        go_wp2_with fail
        refine (SickTables.implIsSickTable_any _ _ xs _ (H.out.below (b0 _ _))).mono ?_; rintro e w1 ⟨rfl, hb1⟩; rw [HK.out]
        obtain ⟨x1, x2, x3⟩ := (HX.out _).below hb1
        have HB1 := Lib.hid (bl (b0 _ _) hb1)
        go_wp2_with fail
        refine (Lists.allIn_any _ ys _ _ _ (G.out.below HB1.out)).mono ?_; rintro e w2 ⟨rfl, hb2⟩; rw [HW.out]
        go_wp2
        go_ret2
        exact ⟨Base.ret_ii V.out.symm C.out.symm, bl HB1.out hb2⟩
    obtain ⟨hw, hl⟩ := ages_of hc
    have V : Hid (swV f xs ys = Plain.upq (sw f xs ys ys.length) 1000) := by show _ = _; unfold swV; rw [hk, if_pos rfl, if_pos hc]
    have C : Hid (swC f xs ys = 0) := by show _ = _; unfold swC; rw [hk, if_pos rfl, if_pos hc]
    have HW := Lib.hid hw
    have WG := Lib.hid (fun i hi => within_get hw i hi)
    have SB := Lib.hid (fun k => sw_bd (f := f) HQ.out.2.2 ys k)
    have WB := Lib.hid (fun age => wk_bd (f := f) HQ.out.2.2 age)
    obtain ⟨⟨f1, f2⟩, ⟨n1, n2⟩, _⟩ := HQ.out
    have hd1 : decide (130 < (ys.length : Int)) = false := by simp; omega
    clear hk hc hw
    rcases g with ⟨rfl, rfl⟩ | ⟨b, off, cap, rfl, hn', hl', hm, hbl, hx⟩
    · go_enter Try.func49, Try.ntmps49
      go_wp2_with fail
      refine (SickTables.implIsSickTable_any _ _ xs _ (H.out.below (b0 _ _))).mono ?_; rintro e w1 ⟨rfl, hb1⟩; rw [HK.out]
      obtain ⟨x1, x2, x3⟩ := (HX.out _).below hb1
      have HB1 := Lib.hid (bl (b0 _ _) hb1)
      go_wp2_with fail
      refine (Lists.allIn_any _ _ _ _ _ (G.out.below HB1.out)).mono ?_; rintro e w2 ⟨rfl, hb2⟩; rw [HW.out]
      have u0 : Plain.upq 0 1000 = 0 := by decide
      go_wp2
      refine wp_loop_rounds 1 ?_; rw [rounds_succ]
      go_wp2_with (first | (go_at_call 74; refine (Round.up_any _ _ _ (by omega) (by omega) (by omega) (by omega)).mono ?_; rintro e w9 ⟨rfl, rfl⟩))
      go_ret2
      exact ⟨Base.ret_ii (by rw [V.out]; rfl) C.out.symm, bl HB1.out hb2⟩
    · have HD := Lib.hid hx
      clear hx
      go_enter Try.func49, Try.ntmps49
      go_wp2_with fail
      refine (SickTables.implIsSickTable_any _ _ xs _ (H.out.below (b0 _ _))).mono ?_; rintro e w1 ⟨rfl, hb1⟩; rw [HK.out]
      have HX1 := Lib.hid ((HX.out _).below hb1)
      obtain ⟨x1, x2, x3⟩ := HX1.out
      have HB1 := Lib.hid (bl (b0 _ _) hb1)
      go_wp2_with fail
      refine (Lists.allIn_any _ ys _ _ _ (G.out.below HB1.out)).mono ?_; rintro e w2 ⟨rfl, hb2⟩; rw [HW.out]
      have HX2 := Lib.hid (HX1.out.below hb2)
      have HB2 := Lib.hid (bl HB1.out hb2)
      clear hb1 hb2
      go_wp2
      go_loopw [6, 24] (fun s i wr => ∃ k : Nat, k ≤ ys.length ∧ i = .int .i64 k ∧ s = .int .i64 (sw f xs ys k) ∧ Hid (Below w.heap.size w wr) ∧ Hid (Box2 wr w.heap.size (.int .i64 f) (.slice a xs.length c))) (fun _ i _ => ys.length - (intOf i).toNat)
      case atStart => exact ⟨0, by omega, rfl, rfl, HB2.out, HX2.out⟩
      case round =>
        obtain ⟨k, hk, rfl, rfl, HB, HX3⟩ := hrel
        obtain ⟨y1, y2, y3⟩ := HX3.out
        have hlb := SB.out k
        by_cases hlt : k < ys.length
        · have HCK := Lib.hid (fun (w' : World) (h : Below w.heap.size w w') => rd_cell (cap := cap) hbl h HD.out k hlt)
          have hck := HCK.out _ HB.out
          have hg := WG.out k hlt
          have hwb := WB.out (ys.getD k 0)
          have E : Hid (sw f xs ys (k + 1) = sw f xs ys k + wk f xs (ys.getD k 0)) := rfl
          have hki : (k : Int) < (ys.length : Int) := by omega
          generalize ys.getD k 0 = age at *
          obtain ⟨ag1, ag2⟩ := hg
          go_wp2_with fail
          refine (SickTables.implWeeks_any f _ xs age _ (H.out.below HB.out) (by omega) (by omega) (by omega) (by omega) (by omega)).mono ?_; rintro e w5 ⟨rfl, hb5⟩
          obtain ⟨z1, z2, z3⟩ := HX3.out.below hb5
          have HB5 := Lib.hid (bl HB.out hb5)
          have HX5 := Lib.hid (HX3.out.below hb5)
          go_wp2
          go_roundw
          case rel => exact ⟨k + 1, by omega, by go_num, by first | (rw [E.out]; done) | (rw [E.out, show IntKind.i64.wrap (sw f xs ys k + wk f xs age) = sw f xs ys k + wk f xs age from IntWalk.i64_in _ (by omega)]), HB5.out, HX5.out⟩
          case measure => simp [intOf]; omega
        · obtain rfl : k = ys.length := by omega
          obtain ⟨u1, u2⟩ := Plain.upq_bd (sw f xs ys ys.length) 1000 hlb.1 (by omega)
          go_wp2_with (first | (go_at_call 74; refine (Round.up_any _ _ _ (by omega) (by omega) (by omega) (by omega)).mono ?_; rintro e w9 ⟨rfl, rfl⟩))
          go_ret2
          exact ⟨Base.ret_ii V.out.symm C.out.symm, HB.out⟩

end Go.Proofs.Ytochnbljjlloiaa.SickSums
