/-
  Contract of the reference's draw of an amount and weights.
  Conditions: the code has at most 4096 bytes. What is drawn: some int64, a list with a sum that is not too great.
-/
import Derived.Test.YtenaeehefamdmaaDraws3
import Derived.Test.YtenaeehefamdmaaDraws4
namespace Go.Proofs.Ytenaeehefamdmaa.Draws
open Go.RowKit Mem
set_option linter.unusedVariables false

def InR (lo hi x : Int) : Prop := lo ≤ x ∧ x ≤ hi
theorem sum_set (l : List Int) (i : Nat) (x : Int) (h : i < l.length) : (l.set i x).sum = l.sum - l.getD i 0 + x := by
  induction l generalizing i with
  | nil => simp at h
  | cons y l ih =>
    cases i with
    | zero => simp; omega
    | succ i =>
      have := ih i (by simpa using h)
      simp only [List.set_cons_succ, List.sum_cons, this, List.getD_cons_succ]
      omega
theorem sum_zeros (n : Nat) : (List.replicate n (0 : Int)).sum = 0 := by
  induction n with
  | zero => rfl
  | succ n ih => rw [List.replicate_succ, List.sum_cons, ih]; rfl
theorem sum_five (n : Nat) (h : 3 < n) : ((List.replicate n (0 : Int)).set 3 5).sum = 5 := by
  rw [sum_set _ _ _ (by simpa using h), sum_zeros]
  simp [List.getD, h]
/-- The weights under construction. -/
def Weights (B p : Nat) (w : World) (v : Value) (n : Nat) : Prop := ∃ ys : List Int, w.ownsRow B 2 1 v n (ys.map (Value.int .i64)) ∧ ys.sum ≤ 500 * n ∧ Src w p ∧ B ≤ w.heap.size
def Shares (w : World) (e : Ending) (w' : World) : Prop := ∃ (x : Int) (v : Value) (xs : List Int), e = .returned (.tuple #[.int .i64 x, v]) ∧ Rd w' v xs ∧ xs.length ≤ 200 ∧ xs.sum ≤ 1000010000 ∧ Below w.heap.size w w'

set_option maxHeartbeats 1000000 in
set_option maxRecDepth 1000000 in
theorem drawShareOut (a : Option Addr) (len cap : Nat) (zs : List Int) (w : World) (h : IsRow .u8 w a len cap zs) (hl : len ≤ 4096) :
    Calls Try.prog 20 #[.slice a len cap] w (Shares w) := by
  obtain ⟨i0, hi, hz0, hz1, hz2⟩ := info_parts infoD
  go_enter Try.func20, Try.ntmps20
  go_wp2_with fail
  refine (from_any a len cap zs w h hl).mono ?_; rintro e w1 ⟨p, rfl, hp, hs, hb⟩
  have HP := Lib.hid hp
  have hpB := hs.lt
  have HPB := Lib.hid hpB
  have HB := Lib.hid hb
  have HS := Lib.hid hs
  clear h hp hb hs hpB
  go_wp2_with fail
  refine (next_lit _ 9 _ (HS.out.below (b0 _ _)) (by omega) (by omega)).mono ?_; rintro e w2 ⟨n0, rfl, n1, n2, hs, hg⟩
  have HS2 := Lib.hid hs
  have HB2 := Lib.hid (grown_below (HB.out.alloc HB.out.size _) HP.out (Nat.le_trans HB.out.size (by simp)) hg)
  have HO2 := Lib.hid (own_keep (World.ownsRow_made (e := 2) (size := 1) w1 #[] 0 (Nat.le_refl _) (by unfold maxLen; omega) rfl) HPB.out hg)
  have HZ2 := Lib.hid (Nat.le_trans (show w1.heap.size ≤ (w1.alloc (.cells #[] 2)).heap.size by simp) hg.size)
  clear hs hg
  go_wp2_with fail
  go_loopw [5, 6] (fun o n wr => ∃ (k : Nat) (m : Int) (ao : Option Addr) (c : Nat), o = .slice ao k c ∧ n = .int .i64 m ∧ 0 ≤ m ∧ m + k ≤ 8 ∧ Hid (Weights w1.heap.size p wr (.slice ao k c) k) ∧ Hid (Below w.heap.size w wr)) (fun _ n _ => (intOf n).toNat)
  case atStart => exact ⟨0, n0, _, _, rfl, rfl, n1, by omega, ⟨[], HO2.out, by simp, HS2.out, HZ2.out⟩, HB2.out⟩
  case round =>
    obtain ⟨k, m, ao, c, rfl, rfl, m0, m1, HBu, HBr⟩ := hrel
    obtain ⟨ys, hown, hall, hs, hz⟩ := HBu.out
    have HO := Lib.hid hown
    have HA := Lib.hid hall
    have HZ := Lib.hid hz
    have HS := Lib.hid hs
    clear hown hall hs hz
    by_cases hm : 0 < m
    · go_wp2_with fail
      refine (pick_lit _ _ _ _ (InR 1 500) _ _ HS.out (by first | rfl | simp) (by rfl) (by decide) (by decide) (by repeat (first | exact all_nil _ | refine all_cons ⟨_, rfl, by (unfold InR; omega)⟩ ?_))).mono ?_; rintro e w3 ⟨x, rfl, x0, hs, hg⟩
      have HS3 := Lib.hid hs
      have HG3 := Lib.hid hg
      unfold InR at x0
      obtain ⟨x1, x2⟩ := x0
      clear hs hg
      go_wp2_with fail
      refine (next_lit _ _ _ HS3.out (by omega) (by omega)).mono ?_; rintro e w4 ⟨d, rfl, d0, d1, hs, hg⟩
      have HS4 := Lib.hid hs
      have HG4 := Lib.hid (grown_trans HG3.out hg)
      have hk9 : k ≤ 9 := by omega
      clear hs hg
      go_wp2_with (at_builtin; refine wpList_append_own _ rfl _ _ 22 rfl w1.heap.size 2 i0 (.int .i64 0) 1 8 Try.underlying22 hi hz0 hz1 hz2 rfl (by decide) _ _ _ rfl ((own_keep HO.out HPB.out HG4.out).alloc _) ⟨w4.heap.size, 0, none⟩ 1 1 [.int .i64 d] rfl rfl (by intro j u hj; match j, hj with | 0, hj => simp at hj; subst hj; simp [Addr.add]) (by intro u hu; simp at hu; subst hu; rfl) (by unfold maxLen; omega) (by omega) (by have := HG4.out.size; have := HZ.out; simp; omega) ?_; intro v' w9 hown' hgrow hnil')
      have HB9 := Lib.hid (app_draw (grown_below HBr.out HP.out (Nat.le_trans HB.out.size HZ.out) HG4.out) HB.out.size (Nat.le_trans HZ.out HG4.out.size) HPB.out HS4.out (own_keep HO.out HPB.out HG4.out) hgrow)
      obtain ⟨ao', c', rfl⟩ := own_shape hown'
      have HO9 := Lib.hid hown'
      have HX : Hid ((ys ++ [d]).sum ≤ 500 * ((k + 1 : Nat) : Int)) := by have := HA.out; show _ ≤ _; rw [List.sum_append]; simp; omega
      clear hown' hgrow hnil'
      go_wp2
      go_roundw
      case rel => exact ⟨k + 1, m - 1, ao', c', rfl, rfl, by omega, by omega, ⟨_, by rw [List.map_append]; exact HO9.out, HX.out, HB9.out.2.2, HB9.out.2.1⟩, HB9.out.1⟩
      case measure => simp [intOf]; omega
    · have hm' : m ≤ 0 := by omega
      clear hm
      have hk12 : k ≤ 8 := by omega
      have hlk : Hid (ys.length = k) := by have := HO.out.1; rw [List.length_map] at this; show _ = _; omega
      go_wp2_with fail
      refine (next_lit _ 30 _ HS.out (by omega) (by omega)).mono ?_; rintro e w2 ⟨s0, rfl, s1, s2, hs, hg⟩
      have HS5 := Lib.hid hs
      have HG5 := Lib.hid hg
      clear hs hg
      by_cases q0 : s0 = 0
      · subst q0
        go_wp2_with fail
        refine (pick_lit _ _ _ _ (InR (-1) 1000000001) _ _ HS5.out (by first | rfl | simp) (by rfl) (by decide) (by decide) (by repeat (first | exact all_nil _ | refine all_cons ⟨_, rfl, by (unfold InR; omega)⟩ ?_))).mono ?_; rintro e w4 ⟨d, rfl, d0, hs, hg⟩
        unfold InR at d0
        obtain ⟨d1, d2⟩ := d0
        have HS4 := Lib.hid hs
        have HG4 := Lib.hid (grown_trans HG5.out hg)
        clear hs hg
        go_wp2_with (at_builtin; refine wpList_append_own _ rfl _ _ 22 rfl w1.heap.size 2 i0 (.int .i64 0) 1 8 Try.underlying22 hi hz0 hz1 hz2 rfl (by decide) _ _ _ rfl ((own_keep HO.out HPB.out HG4.out).alloc _) ⟨w4.heap.size, 0, none⟩ 1 1 [.int .i64 d] rfl rfl (by intro j u hj; match j, hj with | 0, hj => simp at hj; subst hj; simp [Addr.add]) (by intro u hu; simp at hu; subst hu; rfl) (by unfold maxLen; omega) (by omega) (by have := HG4.out.size; have := HZ.out; simp; omega) ?e6)
        case e6 =>
          intro v' w9 hown' hgrow hnil'
          have HB9 := Lib.hid (app_draw (grown_below HBr.out HP.out (Nat.le_trans HB.out.size HZ.out) HG4.out) HB.out.size (Nat.le_trans HZ.out HG4.out.size) HPB.out HS4.out (own_keep HO.out HPB.out HG4.out) hgrow)
          obtain ⟨ao', c', rfl⟩ := own_shape hown'
          have HSt := Lib.hid HB9.out.2.2
          have HBt := Lib.hid HB9.out.1
          have HZt := Lib.hid HB9.out.2.1
          have HOt : Hid (w9.ownsRow w1.heap.size 2 1 (.slice ao' (k + 1) c') (k + 1) ((ys ++ [d]).map (Value.int .i64))) := by show World.ownsRow _ _ _ _ _ _ _; rw [List.map_append]; exact hown'
          have LEN : Hid ((ys ++ [d]).length = k + 1) := by have := hlk.out; show _ = _; simp; omega
          have SUM : Hid ((ys ++ [d]).sum ≤ 1000010000) := by have := HA.out; show _ ≤ _; rw [List.sum_append]; simp; omega
          clear hown' hgrow hnil' HB9
          generalize ys ++ [d] = us at *
          go_wp2_with fail
          refine (next_lit _ 20 _ HSt.out (by omega) (by omega)).mono ?_; rintro e wu ⟨t0, rfl, t1, t2, hs, hg⟩
          have HSu := Lib.hid hs
          have HBu := Lib.hid (grown_below HBt.out HP.out (Nat.le_trans HB.out.size HZt.out) hg)
          have HOu := Lib.hid (own_keep HOt.out HPB.out hg)
          have HZu := Lib.hid (Nat.le_trans HZt.out hg.size)
          clear hs hg HSt HBt HOt HZt
          by_cases r0 : t0 = 0
          · subst r0
            go_wp2_with fail
            refine (pick_lit _ _ _ _ I64 _ _ HSu.out (by first | rfl | simp) (by rfl) (by decide) (by decide) (by repeat (first | exact all_nil _ | refine all_cons ⟨_, rfl, by (unfold I64; omega)⟩ ?_))).mono ?_; rintro e wv ⟨am, rfl, am0, hs, hg⟩
            have HBv := Lib.hid (grown_below HBu.out HP.out (Nat.le_trans HB.out.size HZu.out) hg)
            have HRv := Lib.hid (sl_of_own (own_keep HOu.out HPB.out hg) (by rw [LEN.out]; omega)).rd
            clear hs hg am0
            go_wp2
            go_ret2
            exact ⟨_, _, _, rfl, HRv.out, by rw [LEN.out]; omega, SUM.out, HBv.out⟩
          · have r0' : (t0 == 0) = false := beq_eq_false_iff_ne.2 r0
            go_wp2_with fail
            refine (pick_lit _ _ _ _ (InR 1 300000) _ _ HSu.out (by first | rfl | simp) (by rfl) (by decide) (by decide) (by repeat (first | exact all_nil _ | refine all_cons ⟨_, rfl, by (unfold InR; omega)⟩ ?_))).mono ?_; rintro e wv ⟨am, rfl, am0, hs, hg⟩
            have HSv := Lib.hid hs
            have HBv := Lib.hid (grown_below HBu.out HP.out (Nat.le_trans HB.out.size HZu.out) hg)
            have HOv := Lib.hid (own_keep HOu.out HPB.out hg)
            have HZv := Lib.hid (Nat.le_trans HZu.out hg.size)
            unfold InR at am0
            obtain ⟨am1, am2⟩ := am0
            clear hs hg
            go_wp2_with fail
            refine (next_lit _ _ _ HSv.out (by omega) (by omega)).mono ?_; rintro e wx ⟨ax, rfl, _, _, hs, hg⟩
            have HBx := Lib.hid (grown_below HBv.out HP.out (Nat.le_trans HB.out.size HZv.out) hg)
            have HRx := Lib.hid (sl_of_own (own_keep HOv.out HPB.out hg) (by rw [LEN.out]; omega)).rd
            clear hs hg
            go_wp2
            go_ret2
            exact ⟨_, _, _, rfl, HRx.out, by rw [LEN.out]; omega, SUM.out, HBx.out⟩
      · have q0' : (s0 == 0) = false := beq_eq_false_iff_ne.2 q0
        by_cases q1 : s0 = 1
        · subst q1
          clear q0 q0'
          go_wp2_with fail
          refine (next_lit _ 2 _ HS5.out (by omega) (by omega)).mono ?_; rintro e w' ⟨x, rfl, x0, x1, hs, hg⟩
          have HS6 := Lib.hid hs
          have HG6 := Lib.hid (grown_trans HG5.out hg)
          clear hs hg
          obtain ⟨j, rfl⟩ : ∃ j : Nat, x = j := ⟨x.toNat, by omega⟩
          go_wp2_with (at_make; refine wpList_make_full _ rfl _ _ 22 rfl w1.heap.size 2 i0 (.int .i64 0) 1 Try.underlying22 hi hz0 hz1 _ _ _ _ (130 + j) rfl rfl (by omega) (by omega) (by rw [hz2]; omega) (by unfold maxLen; omega) (Nat.le_trans HZ.out HG6.out.size) ?g6)
          case g6 =>
            intro w9 hown' hgrow
            have HS9 := Lib.hid (HS6.out.keep (w' := w9) fun i hi => hgrow.block i (by have := HS6.out.lt; omega) (by simp))
            have HB9 := Lib.hid ((grown_below HBr.out HP.out (Nat.le_trans HB.out.size HZ.out) HG6.out).grown hgrow (Nat.le_trans HB.out.size (Nat.le_trans HZ.out HG6.out.size)) (fun k hk => by cases hk))
            have hO9 : w9.ownsRow w1.heap.size 2 1 (.slice (some ⟨w'.heap.size, 0, none⟩) (130 + j) (130 + j)) (130 + j) ((List.replicate (130 + j) (0 : Int)).map (Value.int .i64)) := by
              rw [List.map_replicate]
              have := hown'
              rw [toList_madeCells_one] at this
              exact this
            have HZ9 := Lib.hid (Nat.le_trans (Nat.le_trans HZ.out HG6.out.size) hgrow.size)
            have hzw : w1.heap.size ≤ w'.heap.size := Nat.le_trans HZ.out HG6.out.size
            have c3 : w9.cell? ⟨w'.heap.size, 3, none⟩ = some (.int .i64 0) := by
              rw [hO9.cellAt 3 (by omega), List.map_replicate, List.getElem?_replicate, if_pos (by omega)]
            have f3 := hO9.frozenAt 3
            obtain ⟨st, _⟩ := hO9.stored 3 (.int .i64 5)
            have HST := Lib.hid st
            have HSt : Hid (Src (w9.setCell ⟨w'.heap.size, 3, none⟩ (.int .i64 5)) p) := HS9.out.keep (fun i hi => Below.heap_setCell _ _ _ _ (by have := HPB.out; simp; omega))
            have HBt := Lib.hid (HB9.out.setCell (p := ⟨w'.heap.size, 3, none⟩) (Nat.le_trans HB.out.size hzw) (.int .i64 5))
            have HZt : Hid (w1.heap.size ≤ (w9.setCell ⟨w'.heap.size, 3, none⟩ (.int .i64 5)).heap.size) := by have := HZ9.out; show _ ≤ _; simpa using this
            have HOt : Hid ((w9.setCell ⟨w'.heap.size, 3, none⟩ (.int .i64 5)).ownsRow w1.heap.size 2 1 (.slice (some ⟨w'.heap.size, 0, none⟩) (130 + j) (130 + j)) (130 + j) (((List.replicate (130 + j) (0 : Int)).set 3 5).map (Value.int .i64))) := by show World.ownsRow _ _ _ _ _ _ _; rw [List.map_set]; exact HST.out
            have LEN : Hid (((List.replicate (130 + j) (0 : Int)).set 3 5).length = 130 + j) := by show _ = _; simp
            have SUM : Hid (((List.replicate (130 + j) (0 : Int)).set 3 5).sum ≤ 1000010000) := by show _ ≤ _; rw [sum_five _ (by omega)]; omega
            clear hown' hgrow hO9 st HST HS9 HB9 HZ9
            generalize (List.replicate (130 + j) (0 : Int)).set 3 5 = us at *
            go_wp2_with fail
            refine (next_lit _ 20 _ HSt.out (by omega) (by omega)).mono ?_; rintro e wu ⟨t0, rfl, t1, t2, hs, hg⟩
            have HSu := Lib.hid hs
            have HBu := Lib.hid (grown_below HBt.out HP.out (Nat.le_trans HB.out.size HZt.out) hg)
            have HOu := Lib.hid (own_keep HOt.out HPB.out hg)
            have HZu := Lib.hid (Nat.le_trans HZt.out hg.size)
            clear hs hg HSt HBt HOt HZt
            by_cases r0 : t0 = 0
            · subst r0
              go_wp2_with fail
              refine (pick_lit _ _ _ _ I64 _ _ HSu.out (by first | rfl | simp) (by rfl) (by decide) (by decide) (by repeat (first | exact all_nil _ | refine all_cons ⟨_, rfl, by (unfold I64; omega)⟩ ?_))).mono ?_; rintro e wv ⟨am, rfl, am0, hs, hg⟩
              have HBv := Lib.hid (grown_below HBu.out HP.out (Nat.le_trans HB.out.size HZu.out) hg)
              have HRv := Lib.hid (sl_of_own (own_keep HOu.out HPB.out hg) (by rw [LEN.out]; omega)).rd
              clear hs hg am0
              go_wp2
              go_ret2
              exact ⟨_, _, _, rfl, HRv.out, by rw [LEN.out]; omega, SUM.out, HBv.out⟩
            · have r0' : (t0 == 0) = false := beq_eq_false_iff_ne.2 r0
              go_wp2_with fail
              refine (pick_lit _ _ _ _ (InR 1 300000) _ _ HSu.out (by first | rfl | simp) (by rfl) (by decide) (by decide) (by repeat (first | exact all_nil _ | refine all_cons ⟨_, rfl, by (unfold InR; omega)⟩ ?_))).mono ?_; rintro e wv ⟨am, rfl, am0, hs, hg⟩
              have HSv := Lib.hid hs
              have HBv := Lib.hid (grown_below HBu.out HP.out (Nat.le_trans HB.out.size HZu.out) hg)
              have HOv := Lib.hid (own_keep HOu.out HPB.out hg)
              have HZv := Lib.hid (Nat.le_trans HZu.out hg.size)
              unfold InR at am0
              obtain ⟨am1, am2⟩ := am0
              clear hs hg
              go_wp2_with fail
              refine (next_lit _ _ _ HSv.out (by omega) (by omega)).mono ?_; rintro e wx ⟨ax, rfl, _, _, hs, hg⟩
              have HBx := Lib.hid (grown_below HBv.out HP.out (Nat.le_trans HB.out.size HZv.out) hg)
              have HRx := Lib.hid (sl_of_own (own_keep HOv.out HPB.out hg) (by rw [LEN.out]; omega)).rd
              clear hs hg
              go_wp2
              go_ret2
              exact ⟨_, _, _, rfl, HRx.out, by rw [LEN.out]; omega, SUM.out, HBx.out⟩
        · have q1' : (s0 == 1) = false := beq_eq_false_iff_ne.2 q1
          have HSt := HS5
          have HBt := Lib.hid (grown_below HBr.out HP.out (Nat.le_trans HB.out.size HZ.out) HG5.out)
          have HZt := Lib.hid (Nat.le_trans HZ.out HG5.out.size)
          have HOt := Lib.hid (own_keep HO.out HPB.out HG5.out)
          have LEN : Hid (ys.length = k) := hlk
          have SUM : Hid (ys.sum ≤ 1000010000) := by have := HA.out; show _ ≤ _; omega
          go_wp2_with fail
          refine (next_lit _ 20 _ HSt.out (by omega) (by omega)).mono ?_; rintro e wu ⟨t0, rfl, t1, t2, hs, hg⟩
          have HSu := Lib.hid hs
          have HBu := Lib.hid (grown_below HBt.out HP.out (Nat.le_trans HB.out.size HZt.out) hg)
          have HOu := Lib.hid (own_keep HOt.out HPB.out hg)
          have HZu := Lib.hid (Nat.le_trans HZt.out hg.size)
          clear hs hg HSt HBt HOt HZt
          by_cases r0 : t0 = 0
          · subst r0
            go_wp2_with fail
            refine (pick_lit _ _ _ _ I64 _ _ HSu.out (by first | rfl | simp) (by rfl) (by decide) (by decide) (by repeat (first | exact all_nil _ | refine all_cons ⟨_, rfl, by (unfold I64; omega)⟩ ?_))).mono ?_; rintro e wv ⟨am, rfl, am0, hs, hg⟩
            have HBv := Lib.hid (grown_below HBu.out HP.out (Nat.le_trans HB.out.size HZu.out) hg)
            have HRv := Lib.hid (sl_of_own (own_keep HOu.out HPB.out hg) (by rw [LEN.out]; omega)).rd
            clear hs hg am0
            go_wp2
            go_ret2
            exact ⟨_, _, _, rfl, HRv.out, by rw [LEN.out]; omega, SUM.out, HBv.out⟩
          · have r0' : (t0 == 0) = false := beq_eq_false_iff_ne.2 r0
            go_wp2_with fail
            refine (pick_lit _ _ _ _ (InR 1 300000) _ _ HSu.out (by first | rfl | simp) (by rfl) (by decide) (by decide) (by repeat (first | exact all_nil _ | refine all_cons ⟨_, rfl, by (unfold InR; omega)⟩ ?_))).mono ?_; rintro e wv ⟨am, rfl, am0, hs, hg⟩
            have HSv := Lib.hid hs
            have HBv := Lib.hid (grown_below HBu.out HP.out (Nat.le_trans HB.out.size HZu.out) hg)
            have HOv := Lib.hid (own_keep HOu.out HPB.out hg)
            have HZv := Lib.hid (Nat.le_trans HZu.out hg.size)
            unfold InR at am0
            obtain ⟨am1, am2⟩ := am0
            clear hs hg
            go_wp2_with fail
            refine (next_lit _ _ _ HSv.out (by omega) (by omega)).mono ?_; rintro e wx ⟨ax, rfl, _, _, hs, hg⟩
            have HBx := Lib.hid (grown_below HBv.out HP.out (Nat.le_trans HB.out.size HZv.out) hg)
            have HRx := Lib.hid (sl_of_own (own_keep HOv.out HPB.out hg) (by rw [LEN.out]; omega)).rd
            clear hs hg
            go_wp2
            go_ret2
            exact ⟨_, _, _, rfl, HRx.out, by rw [LEN.out]; omega, SUM.out, HBx.out⟩
end Go.Proofs.Ytenaeehefamdmaa.Draws
