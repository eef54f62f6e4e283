/-
  Contracts of DrawWeeksAt and DrawSickWeeks.
  Conditions: the code has at most 4096 bytes. What is drawn is some table, some list, some int64: no more is said.
-/
import Derived.Test.YtochnbljjlloiaaDraws5
namespace Go.Proofs.Ytochnbljjlloiaa.Draws
open Go.RowKit Mem
set_option linter.unusedVariables false

theorem sl_grown {w w' : World} {B p : Nat} {v : Value} {xs : List Int} (h : Sl w B v xs) (hp : p < B) (g : w.grownBy w' (some p)) : Sl w' B v xs := by
  rcases h with h | ⟨b, off, cap, cur, hv, hn, hl, hm, hB, hb, r⟩
  · exact .inl h
  · exact .inr ⟨b, off, cap, cur, hv, hn, hl, hm, hB, (g.block b (lt_of_get hb) (by simp; omega)).trans hb, r⟩
def TableInt (w : World) (e : Ending) (w' : World) : Prop := ∃ (f : Int) (v : Value) (xs : List Int) (y : Int), e = .returned (.tuple #[.agg #[.int .i64 f, v], .int .i64 y]) ∧ I64 f ∧ Rd w' v xs ∧ xs.length ≤ 30 ∧ AllI64 xs ∧ I64 y ∧ Below w.heap.size w w'
def TableList (w : World) (e : Ending) (w' : World) : Prop := ∃ (f : Int) (v : Value) (xs : List Int) (u : Value) (ys : List Int), e = .returned (.tuple #[.agg #[.int .i64 f, v], u]) ∧ I64 f ∧ Rd w' v xs ∧ xs.length ≤ 30 ∧ AllI64 xs ∧ Rd w' u ys ∧ ys.length ≤ 200 ∧ AllI64 ys ∧ Below w.heap.size w w'

theorem make_grown {w0 w w1 : World} {p : Nat} (h : w0.grownBy w (some p)) (g : w.grownBy w1 none) : w0.grownBy w1 (some p) :=
  ⟨g.os.trans h.os, g.tape.trans h.tape, g.output.trans h.output, Nat.le_trans h.size g.size, fun i hi hr => (g.block i (Nat.lt_of_lt_of_le hi h.size) (by simp)).trans (h.block i hi hr)⟩
theorem sl_made {w : World} {B g n c : Nat} (h : w.ownsRow B 2 1 (.slice (some ⟨g, 0, none⟩) n c) n (madeCells #[Value.int .i64 0] n).toList) (hn : n ≤ 1000000000000) : Sl w B (.slice (some ⟨g, 0, none⟩) n c) (List.replicate n 0) := by
  refine sl_of_own (n := n) ?_ (by simp; omega)
  rw [List.map_replicate]
  rw [toList_madeCells_one] at h
  exact h

set_option maxHeartbeats 1000000 in
set_option maxRecDepth 1000000 in
theorem drawWeeksAt (a : Option Addr) (len cap : Nat) (zs : List Int) (w : World) (h : IsRow .u8 w a len cap zs) (hl : len ≤ 4096) :
    Calls Try.prog 56 #[.slice a len cap] w (TableInt w) := by
  have HR := Lib.hid (fun o => row_below h (b0 w o))
  clear h
  go_enter Try.func56, Try.ntmps56
  go_wp2_with fail
  have hz0s : (w.alloc (.cells #[.int .i64 0, .slice none 0 0] 40)).heap.size = w.heap.size + 1 := by simp
  have hz0h := heap_alloc_new w (.cells #[.int .i64 0, .slice none 0 0] 40)
  have hz0b := b0 w (.cells #[.int .i64 0, .slice none 0 0] 40)
  have hz0r := HR.out (.cells #[.int .i64 0, .slice none 0 0] 40)
  generalize w.alloc (.cells #[.int .i64 0, .slice none 0 0] 40) = wz at *
  have HZS := Lib.hid hz0s
  have HZH := Lib.hid hz0h
  have HZB := Lib.hid hz0b
  have HZR := Lib.hid hz0r
  clear hz0s hz0h hz0b hz0r
  refine (from_any a len cap zs wz HZR.out hl).mono ?_; rintro e w1 ⟨p, rfl, hp, hs, hb⟩
  have HP := Lib.hid hp
  have HPw := Lib.hid (show w.heap.size < p by have := HZS.out; omega)
  have HB := Lib.hid hb
  have HS := Lib.hid hs
  have HP1 := Lib.hid hs.lt
  have HG := Lib.hid (grown_refl w1 (some p))
  clear hp hb hs
  go_wp2_with fail
  refine (next_lit _ _ _ HS.out (by omega) (by omega)).mono ?_; rintro e w2 ⟨s0, rfl, s1, s2, hs, hg⟩
  have HS2 := Lib.hid hs
  have HG2 := Lib.hid hg
  have HP2 := Lib.hid hs.lt
  clear hs hg
  by_cases q0 : s0 = 0
  all_goals
    first | (subst q0; have q0' : (0 == (0 : Int)) = true := rfl) | (have q0' : (s0 == 0) = false := by simpa using q0)
    go_wp2_with fail
    refine (sick_any _ _ HS2.out).mono ?_; rintro e w3 ⟨f, v, xs, rfl, f0, hsl, hl1, hall, hs, hg⟩
    obtain ⟨va, vc, rfl⟩ := sl_shape hsl
    have F0 := Lib.hid f0
    have HSl := Lib.hid hsl
    have HA := Lib.hid hall
    have HS3 := Lib.hid hs
    have HG3 := Lib.hid (grown_trans HG2.out hg)
    clear f0 hsl hall hs hg
    go_wp2_with fail
    first
      | (refine (pick_lit _ _ _ _ I64 _ _ HS3.out (by first | rfl | simp) (by rfl) (by decide) (by decide) (by repeat (first | exact all_nil _ | refine all_cons ⟨_, rfl, by (unfold I64; omega)⟩ ?_))).mono ?_; rintro e w4 ⟨y, rfl, y0, hs, hg⟩)
      | (refine (next_lit _ _ _ HS3.out (by omega) (by omega)).mono ?_; rintro e w4 ⟨y, rfl, y1, y2, hs, hg⟩; have y0 : I64 y := by unfold I64; omega)
    have Y0 := Lib.hid y0
    have HS4 := Lib.hid hs
    have HSl4 := Lib.hid (sl_grown HSl.out HP2.out hg)
    have HB4 := Lib.hid (grown_below HB.out HP.out HB.out.size (grown_trans HG3.out hg))
    clear y0 hs hg
    have z4 := (HB4.out.block w.heap.size (by rw [HZS.out]; omega)).trans HZH.out
    have t0 := cell_of_block (j := 0) z4 rfl
    have t1 := cell_of_block (j := 1) z4 rfl
    have t2 := frozen_of_row w4 w.heap.size 0 _ _ z4
    have t3 := frozen_of_row w4 w.heap.size 1 _ _ z4
    have TS := Lib.hid (two_set (.int .i64 f) (.slice va xs.length vc) z4)
    clear z4
    go_wp2
    refine bodyPost_ret (v := .tuple #[.agg #[.int .i64 f, .slice va xs.length vc], .int .i64 y]) (by simp [results, Try.results56, go_sem, TS.out.2.1, TS.out.2.2]) rfl ⟨f, _, xs, y, rfl, F0.out, ?_, hl1, HA.out, Y0.out, ?_⟩
    · exact (sl_setCell (sl_setCell HSl4.out (Nat.lt_trans HPw.out HP2.out) _) (Nat.lt_trans HPw.out HP2.out) _).rd
    · exact ((HZB.out.trans (HB4.out.mono (by rw [HZS.out]; omega))).setCell (Nat.le_refl _) _).setCell (Nat.le_refl _) _

set_option maxHeartbeats 2000000 in
set_option maxRecDepth 1000000 in
theorem drawSickWeeks (a : Option Addr) (len cap : Nat) (zs : List Int) (w : World) (h : IsRow .u8 w a len cap zs) (hl : len ≤ 4096) :
    Calls Try.prog 55 #[.slice a len cap] w (TableList w) := by
  obtain ⟨i0, hi, hz0, hz1, hz2⟩ := info_parts infoD
  have HR := Lib.hid (fun o => row_below h (b0 w o))
  clear h
  go_enter Try.func55, Try.ntmps55
  go_wp2_with fail
  have hz0s : (w.alloc (.cells #[.int .i64 0, .slice none 0 0] 40)).heap.size = w.heap.size + 1 := by simp
  have hz0h := heap_alloc_new w (.cells #[.int .i64 0, .slice none 0 0] 40)
  have hz0b := b0 w (.cells #[.int .i64 0, .slice none 0 0] 40)
  have hz0r := HR.out (.cells #[.int .i64 0, .slice none 0 0] 40)
  generalize w.alloc (.cells #[.int .i64 0, .slice none 0 0] 40) = wz at *
  have HZS := Lib.hid hz0s
  have HZH := Lib.hid hz0h
  have HZB := Lib.hid hz0b
  have HZR := Lib.hid hz0r
  clear hz0s hz0h hz0b hz0r
  refine (from_any a len cap zs wz HZR.out hl).mono ?_; rintro e w1 ⟨p, rfl, hp, hs, hb⟩
  have HP := Lib.hid hp
  have HPw := Lib.hid (show w.heap.size < p by have := HZS.out; omega)
  have HB := Lib.hid hb
  have HS := Lib.hid hs
  have HP1 := Lib.hid hs.lt
  clear hp hb hs
  go_wp2_with fail
  refine (sick_any _ _ HS.out).mono ?_; rintro e w3 ⟨f, v, xs, rfl, f0, hsl, hl1, hall, hs, hg⟩
  obtain ⟨va, vc, rfl⟩ := sl_shape hsl
  have F0 := Lib.hid f0
  have HSl := Lib.hid (hsl.below (b0 w3 (.cells #[.int .i64 f, .slice va xs.length vc] 40)))
  have HA := Lib.hid hall
  have HS3 := Lib.hid (hs.below (b0 w3 (.cells #[.int .i64 f, .slice va xs.length vc] 40)))
  have HG3 := Lib.hid (grown_trans hg (grown_of_below (b0 w3 (.cells #[.int .i64 f, .slice va xs.length vc] 40)) (some p)))
  have HP3 := Lib.hid hs.lt
  clear f0 hsl hall hs hg
  go_wp2_with fail
  have hq0 := heap_alloc_new w3 (.cells #[.int .i64 f, .slice va xs.length vc] 40)
  have hq1 : (w3.alloc (.cells #[.int .i64 f, .slice va xs.length vc] 40)).heap.size = w3.heap.size + 1 := by simp
  generalize w3.alloc (.cells #[.int .i64 f, .slice va xs.length vc] 40) = wq at *
  have HQ := Lib.hid hq0
  have HQS := Lib.hid hq1
  have HPq := Lib.hid (show p < wq.heap.size by have := HP3.out; omega)
  clear hq0 hq1
  refine (next_lit _ _ _ (HS3.out.below (b0 _ _)) (by omega) (by omega)).mono ?_; rintro e w4 ⟨n0, rfl, n1, n2, hs, hg⟩
  have HO4 := Lib.hid (own_keep (World.ownsRow_made (e := 2) (size := 1) wq #[] 0 (Nat.le_refl _) (by unfold maxLen; omega) rfl) HPq.out hg)
  have HS4 := Lib.hid hs
  have HG4 := Lib.hid (grown_trans (grown_of_below (b0 wq _) (some p)) hg)
  clear hs hg
  have HO5 : Hid (w4.ownsRow wq.heap.size 2 1 (.slice (some ⟨w3.heap.size + 1, 0, none⟩) 0 0) 0 []) := by show World.ownsRow _ _ _ _ _ _ _; rw [← HQS.out]; exact HO4.out
  go_wp2_with fail
  go_loopw [6, 7] (fun o n wr => ∃ (k : Nat) (m : Int) (ao : Option Addr) (c : Nat), o = .slice ao k c ∧ n = .int .i64 m ∧ 0 ≤ m ∧ m + k ≤ 12 ∧ Hid (Building wq.heap.size p wr (.slice ao k c) k) ∧ Hid (wq.grownBy wr (some p))) (fun _ n _ => (intOf n).toNat)
  case atStart => exact ⟨0, n0, _, _, rfl, rfl, n1, by omega, ⟨[], HO5.out, (fun _ h => by cases h), HS4.out, HG4.out.size⟩, HG4.out⟩
  case round =>
    obtain ⟨k, m, ao, c, rfl, rfl, m0, m1, HBu, HG⟩ := hrel
    obtain ⟨ys, hown, hall, hs, hz⟩ := HBu.out
    have HO := Lib.hid hown
    have HA2 := Lib.hid hall
    have HS5 := Lib.hid hs
    clear hown hall hs hz
    by_cases hm : 0 < m
    · go_wp2_with fail
      refine (next_lit _ _ _ HS5.out (by omega) (by omega)).mono ?_; rintro e w' ⟨x, rfl, x0, x1, hs, hg⟩
      have HS9 := Lib.hid hs
      have HG9 := Lib.hid hg
      have hy : I64 x := by unfold I64; omega
      clear hs hg
      go_wp2_with (at_builtin; refine wpList_append_own _ rfl _ _ 22 rfl wq.heap.size 2 i0 (.int .i64 0) 1 8 Try.underlying22 hi hz0 hz1 hz2 rfl (by decide) _ _ _ rfl ((own_keep HO.out HPq.out HG9.out).alloc _) ⟨w'.heap.size, 0, none⟩ 1 1 [.int .i64 x] rfl rfl ?c1 ?c2 ?c3 ?c4 ?c5 ?c6)
      case c1 =>
        intro j u hj; match j, hj with | 0, hj => simp at hj; subst hj; simp [Addr.add]
      case c2 => intro u hu; simp at hu; subst hu; rfl
      case c3 => unfold maxLen; omega
      case c4 => omega
      case c5 => have := HG.out.size; have := HG9.out.size; simp; omega
      intro v' w9 hown' hgrow hnil'
      obtain ⟨ao', c', rfl⟩ := own_shape hown'
      have HO9 := Lib.hid hown'
      have HS9 := Lib.hid (app_src (Nat.le_trans HG.out.size HG9.out.size) HPq.out HS9.out (own_keep HO.out HPq.out HG9.out) hgrow)
      have HG10 := Lib.hid (app_grown (grown_trans HG.out HG9.out) (Nat.le_refl _) (own_keep HO.out HPq.out HG9.out) hgrow)
      have HX := Lib.hid (all_snoc HA2.out hy)
      clear hown' hgrow hnil'
      go_wp2
      go_roundw
      case rel => exact ⟨k + 1, m - 1, ao', c', rfl, rfl, by omega, by omega, ⟨_, by rw [List.map_append]; exact HO9.out, HX.out, HS9.out, HG10.out.size⟩, HG10.out⟩
      case measure => simp [intOf]; omega
    · have hm' : m ≤ 0 := by omega
      have hk12 : k ≤ 12 := by omega
      have hl : ys.length = k := by have := HO.out.1; rw [List.length_map] at this; omega
      clear hm
      go_wp2_with fail
      refine (next_lit _ _ _ HS5.out (by omega) (by omega)).mono ?_; rintro e w5 ⟨s0, rfl, s1, s2, hs, hg⟩
      have HS6 := Lib.hid hs
      have HG6 := Lib.hid hg
      clear hs hg
      rcases (by omega : s0 = 0 ∨ s0 = 1 ∨ 2 ≤ s0) with q0 | q0 | q0
      · subst q0
        go_wp2_with fail
        refine (pick_lit _ _ _ _ I64 _ _ HS6.out (by first | rfl | simp) (by rfl) (by decide) (by decide) (by repeat (first | exact all_nil _ | refine all_cons ⟨_, rfl, by (unfold I64; omega)⟩ ?_))).mono ?_; rintro e w' ⟨x, rfl, hy, hs, hg⟩
        have HS9 := Lib.hid hs
        have HG9 := Lib.hid (grown_trans HG6.out hg)
        clear hs hg
        go_wp2_with (at_builtin; refine wpList_append_own _ rfl _ _ 22 rfl wq.heap.size 2 i0 (.int .i64 0) 1 8 Try.underlying22 hi hz0 hz1 hz2 rfl (by decide) _ _ _ rfl ((own_keep HO.out HPq.out HG9.out).alloc _) ⟨w'.heap.size, 0, none⟩ 1 1 [.int .i64 x] rfl rfl ?d1 ?d2 ?d3 ?d4 ?d5 ?d6)
        case d1 =>
          intro j u hj; match j, hj with | 0, hj => simp at hj; subst hj; simp [Addr.add]
        case d2 => intro u hu; simp at hu; subst hu; rfl
        case d3 => unfold maxLen; omega
        case d4 => omega
        case d5 => have := HG.out.size; have := HG9.out.size; simp; omega
        intro v' w9 hown' hgrow hnil'
        obtain ⟨ao', c', rfl⟩ := own_shape hown'
        have HO9 := Lib.hid hown'
        have HS9 := Lib.hid (app_src (Nat.le_trans HG.out.size HG9.out.size) HPq.out HS9.out (own_keep HO.out HPq.out HG9.out) hgrow)
        have HG10 := Lib.hid (app_grown (grown_trans HG.out HG9.out) (Nat.le_refl _) (own_keep HO.out HPq.out HG9.out) hgrow)
        have HX := Lib.hid (all_snoc HA2.out hy)
        clear hown' hgrow hnil'
        have HBe := Lib.hid (grown_below HB.out HP.out HB.out.size (grown_trans HG3.out HG10.out))
        have z4 := (HBe.out.block w.heap.size (by rw [HZS.out]; omega)).trans HZH.out
        have q4 := ((HG10.out).block w3.heap.size (by rw [HQS.out]; omega) (by have := HP3.out; simp; omega)).trans HQ.out
        have HSle := Lib.hid (sl_grown HSl.out (Nat.lt_of_lt_of_le HP1.out (by have := HPq.out; exact Nat.le_refl _)) (HG10.out))
        have c0 := cell_of_block (j := 0) q4 rfl
        have c1 := cell_of_block (j := 1) q4 rfl
        have t0 := cell_of_block (j := 0) z4 rfl
        have t1 := cell_of_block (j := 1) z4 rfl
        have t2 := frozen_of_row w9 w.heap.size 0 _ _ z4
        have t3 := frozen_of_row w9 w.heap.size 1 _ _ z4
        have TS := Lib.hid (two_set (.int .i64 f) (.slice va xs.length vc) z4)
        clear z4 q4
        go_wp2
        refine bodyPost_ret (v := .tuple #[.agg #[.int .i64 f, .slice va xs.length vc], .slice ao' (k + 1) c']) (by simp [results, Try.results55, go_sem, TS.out.2.1, TS.out.2.2]) rfl ⟨f, _, xs, _, ys ++ [x], rfl, F0.out, ?_, hl1, HA.out, ?_, by simp; omega, HX.out, ?_⟩
        · exact (sl_setCell (sl_setCell HSle.out (Nat.lt_trans HPw.out HP1.out) _) (Nat.lt_trans HPw.out HP1.out) _).rd
        · exact (sl_setCell (B := wq.heap.size) (sl_setCell (sl_of_own (n := k + 1) (by rw [List.map_append]; exact HO9.out) (by simp; omega)) (Nat.lt_trans HPw.out HPq.out) _) (Nat.lt_trans HPw.out HPq.out) _).rd
        · exact ((HZB.out.trans (HBe.out.mono (by rw [HZS.out]; omega))).setCell (Nat.le_refl _) _).setCell (Nat.le_refl _) _
      · subst q0
        have e0 : (1 == (0 : Int)) = false := rfl
        go_wp2_with fail
        refine (next_lit _ _ _ HS6.out (by omega) (by omega)).mono ?_; rintro e w' ⟨x, rfl, x0, x1, hs, hg⟩
        have HG9 := Lib.hid (grown_trans HG6.out hg)
        clear hs hg
        obtain ⟨j, rfl⟩ : ∃ j : Nat, x = j := ⟨x.toNat, by omega⟩
        go_wp2_with (at_make; refine wpList_make_full _ rfl _ _ 22 rfl wq.heap.size 2 i0 (.int .i64 0) 1 Try.underlying22 hi hz0 hz1 _ _ _ _ (130 + j) rfl rfl (by omega) (by omega) (by rw [hz2]; omega) (by unfold maxLen; omega) (Nat.le_trans HG.out.size HG9.out.size) ?mk1)
        intro w9 hown' hgrow
        have HG10 := Lib.hid (make_grown (grown_trans HG.out HG9.out) hgrow)
        have HSl9 := Lib.hid (sl_made (n := 130 + j) hown' (by omega))
        clear hown' hgrow
        have HBe := Lib.hid (grown_below HB.out HP.out HB.out.size (grown_trans HG3.out HG10.out))
        have z4 := (HBe.out.block w.heap.size (by rw [HZS.out]; omega)).trans HZH.out
        have q4 := ((HG10.out).block w3.heap.size (by rw [HQS.out]; omega) (by have := HP3.out; simp; omega)).trans HQ.out
        have HSle := Lib.hid (sl_grown HSl.out (Nat.lt_of_lt_of_le HP1.out (by have := HPq.out; exact Nat.le_refl _)) (HG10.out))
        have c0 := cell_of_block (j := 0) q4 rfl
        have c1 := cell_of_block (j := 1) q4 rfl
        have t0 := cell_of_block (j := 0) z4 rfl
        have t1 := cell_of_block (j := 1) z4 rfl
        have t2 := frozen_of_row w9 w.heap.size 0 _ _ z4
        have t3 := frozen_of_row w9 w.heap.size 1 _ _ z4
        have TS := Lib.hid (two_set (.int .i64 f) (.slice va xs.length vc) z4)
        clear z4 q4
        go_wp2
        refine bodyPost_ret (v := .tuple #[.agg #[.int .i64 f, .slice va xs.length vc], .slice (some ⟨w'.heap.size, 0, none⟩) (130 + j) (130 + j)]) (by simp [results, Try.results55, go_sem, TS.out.2.1, TS.out.2.2]) rfl ⟨f, _, xs, _, List.replicate (130 + j) 0, rfl, F0.out, ?_, hl1, HA.out, ?_, by simp; omega, all_zero _, ?_⟩
        · exact (sl_setCell (sl_setCell HSle.out (Nat.lt_trans HPw.out HP1.out) _) (Nat.lt_trans HPw.out HP1.out) _).rd
        · exact (sl_setCell (B := wq.heap.size) (sl_setCell HSl9.out (Nat.lt_trans HPw.out HPq.out) _) (Nat.lt_trans HPw.out HPq.out) _).rd
        · exact ((HZB.out.trans (HBe.out.mono (by rw [HZS.out]; omega))).setCell (Nat.le_refl _) _).setCell (Nat.le_refl _) _
      · have e0 : (s0 == 0) = false := by simp; omega
        have e1 : (s0 == 1) = false := by simp; omega
        have HG10 := Lib.hid (grown_trans HG.out HG6.out)
        have HO9 := Lib.hid (own_keep HO.out HPq.out HG6.out)
        have HBe := Lib.hid (grown_below HB.out HP.out HB.out.size (grown_trans HG3.out HG10.out))
        have z4 := (HBe.out.block w.heap.size (by rw [HZS.out]; omega)).trans HZH.out
        have q4 := ((HG10.out).block w3.heap.size (by rw [HQS.out]; omega) (by have := HP3.out; simp; omega)).trans HQ.out
        have HSle := Lib.hid (sl_grown HSl.out (Nat.lt_of_lt_of_le HP1.out (by have := HPq.out; exact Nat.le_refl _)) (HG10.out))
        have c0 := cell_of_block (j := 0) q4 rfl
        have c1 := cell_of_block (j := 1) q4 rfl
        have t0 := cell_of_block (j := 0) z4 rfl
        have t1 := cell_of_block (j := 1) z4 rfl
        have t2 := frozen_of_row w5 w.heap.size 0 _ _ z4
        have t3 := frozen_of_row w5 w.heap.size 1 _ _ z4
        have TS := Lib.hid (two_set (.int .i64 f) (.slice va xs.length vc) z4)
        clear z4 q4
        go_wp2
        refine bodyPost_ret (v := .tuple #[.agg #[.int .i64 f, .slice va xs.length vc], .slice ao k c]) (by simp [results, Try.results55, go_sem, TS.out.2.1, TS.out.2.2]) rfl ⟨f, _, xs, _, ys, rfl, F0.out, ?_, hl1, HA.out, ?_, by omega, HA2.out, ?_⟩
        · exact (sl_setCell (sl_setCell HSle.out (Nat.lt_trans HPw.out HP1.out) _) (Nat.lt_trans HPw.out HP1.out) _).rd
        · exact (sl_setCell (B := wq.heap.size) (sl_setCell (sl_of_own (n := k) HO9.out (by omega)) (Nat.lt_trans HPw.out HPq.out) _) (Nat.lt_trans HPw.out HPq.out) _).rd
        · exact ((HZB.out.trans (HBe.out.mono (by rw [HZS.out]; omega))).setCell (Nat.le_refl _) _).setCell (Nat.le_refl _) _

end Go.Proofs.Ytochnbljjlloiaa.Draws
