/-
  Contracts of the reference's draws of lists.
  Conditions: the code has at most 4096 bytes. What is drawn is some list of int64 of at most 200 elements: no more is said.
-/
import Derived.Test.YtdafgpikgpobbaaDraws3
namespace Go.Proofs.Ytdafgpikgpobbaa.Draws
open Go.RowKit Mem
set_option linter.unusedVariables false

theorem infoD : (Try.prog.info? 2).map (fun i => (i.zero, i.size, i.bytes)) = some (some (.int .i64 0), 1, 8) := by kernel_rfl

theorem own_keep {w w' : World} {B e n p : Nat} {v : Value} {xs : List Value} (h : w.ownsRow B e 1 v n xs) (hp : p < B) (g : w.grownBy w' (some p)) : w'.ownsRow B e 1 v n xs :=
  h.kept g (by
    cases hv : v.ownBlock with
    | none => exact .inl rfl
    | some k => right; intro e; injection e with e; have := (h.lt k hv).1; omega)

/-- An append to a row of the call's own that lies behind the source. -/
theorem app_draw {w0 w w1 : World} {B0 B e n p : Nat} {v : Value} {xs : List Value} {o : Obj} (h : Below B0 w0 w) (hB0 : B0 ≤ B) (hB : B ≤ w.heap.size) (hp : p < B) (hs : Src w p) (hown : w.ownsRow B e 1 v n xs) (hg : (w.alloc o).grownBy w1 v.ownBlock) :
    Below B0 w0 w1 ∧ B ≤ w1.heap.size ∧ Src w1 p := by
  have k := (h.alloc (Nat.le_trans hB0 hB) o).grown hg (by simp; omega) (fun k hk => Nat.le_trans hB0 (hown.lt k hk).1)
  have hs1 := hg.size
  simp at hs1
  refine ⟨k, by omega, hs.keep fun i hi => ?_⟩
  have hi2 : i < w.heap.size := by omega
  exact (hg.block i (by simp; omega) (fun e => by have := (hown.lt i e.symm).1; omega)).trans (Below.heap_alloc w o i hi2)

def AllI64 (xs : List Int) : Prop := ∀ x ∈ xs, I64 x
theorem all_snoc {xs : List Int} {x : Int} (h : AllI64 xs) (g : I64 x) : AllI64 (xs ++ [x]) := fun y hy => by
  rcases List.mem_append.1 hy with hy | hy
  · exact h y hy
  · rw [List.mem_singleton.1 hy]; exact g
theorem all_zero (n : Nat) : AllI64 (List.replicate n 0) := fun y hy => by
  rw [List.eq_of_mem_replicate hy]; unfold I64; omega

/-- The list under construction. -/
def Building (B p : Nat) (w : World) (v : Value) (n : Nat) : Prop := ∃ ys : List Int, w.ownsRow B 2 1 v n (ys.map (Value.int .i64)) ∧ AllI64 ys ∧ Src w p ∧ B ≤ w.heap.size
theorem Building.len {B p : Nat} {w : World} {v : Value} {n : Nat} (h : Building B p w v n) : ∃ a c, v = .slice a n c := by
  obtain ⟨ys, h, _⟩ := h; exact own_shape h

def ListInt (w : World) (e : Ending) (w' : World) : Prop := ∃ (v : Value) (xs : List Int) (r : Int), e = .returned (.tuple #[v, .int .i64 r]) ∧ Rd w' v xs ∧ xs.length ≤ 200 ∧ AllI64 xs ∧ I64 r ∧ Below w.heap.size w w'
def ListOne (w : World) (e : Ending) (w' : World) : Prop := ∃ (v : Value) (xs : List Int), e = .returned v ∧ Rd w' v xs ∧ xs.length ≤ 200 ∧ AllI64 xs ∧ Below w.heap.size w w'

set_option maxHeartbeats 1000000 in
set_option maxRecDepth 1000000 in
theorem drawPresentValue (a : Option Addr) (len cap : Nat) (zs : List Int) (w : World) (h : IsRow .u8 w a len cap zs) (hl : len ≤ 4096) :
    Calls Try.prog 56 #[.slice a len cap] w (ListInt w) := by
  obtain ⟨i0, hi, hz0, hz1, hz2⟩ := info_parts infoD
  go_enter Try.func56, Try.ntmps56
  go_wp2_with fail
  refine (from_any a len cap zs w h hl).mono ?_; rintro e w1 ⟨p, rfl, hp, hs, hb⟩
  have HP := Lib.hid hp
  have hpB := hs.lt
  have HPB := Lib.hid hpB
  have HB := Lib.hid hb
  have HS := Lib.hid hs
  clear h hp hb hs hpB
  go_wp2_with fail
  refine (next_lit _ _ _ (HS.out.below (b0 _ _)) (by omega) (by omega)).mono ?_; rintro e w2 ⟨n0, rfl, n1, n2, hs, hg⟩
  have HS2 := Lib.hid hs
  have HB2 := Lib.hid (grown_below (HB.out.alloc HB.out.size _) HP.out (Nat.le_trans HB.out.size (by simp)) hg)
  have HO2 := Lib.hid (own_keep (World.ownsRow_made (e := 2) (size := 1) w1 #[] 0 (Nat.le_refl _) (by unfold maxLen; omega) rfl) HPB.out hg)
  have HZ2 := Lib.hid (Nat.le_trans (show w1.heap.size ≤ (w1.alloc (.cells #[] 2)).heap.size by simp) hg.size)
  clear hs hg
  go_wp2_with fail
  go_loopw [5, 6] (fun o n wr => ∃ (k : Nat) (m : Int) (ao : Option Addr) (c : Nat), o = .slice ao k c ∧ n = .int .i64 m ∧ 0 ≤ m ∧ m + k ≤ 12 ∧ Hid (Building w1.heap.size p wr (.slice ao k c) k) ∧ Hid (Below w.heap.size w wr)) (fun _ n _ => (intOf n).toNat)
  case atStart => exact ⟨0, n0, _, _, rfl, rfl, n1, by omega, ⟨[], HO2.out, (fun _ h => by cases h), HS2.out, HZ2.out⟩, HB2.out⟩
  case round =>
    obtain ⟨k, m, ao, c, rfl, rfl, m0, m1, HBu, HBr⟩ := hrel
    obtain ⟨ys, hown, hall, hs, hz⟩ := HBu.out
    have HO := Lib.hid hown
    have HA := Lib.hid hall
    have HZ := Lib.hid hz
    have HS := Lib.hid hs
    have HG := Lib.hid (grown_refl wr (some p))
    clear hown hall hs hz
    by_cases hm : 0 < m
    · go_wp2_with (first
      | (go_at_call 61; (first | refine (Draws.next_lit _ _ _ HS.out (by omega) (by omega)).mono ?_ | refine (Draws.next_any _ _ _ HS.out (by omega)).mono ?_); rintro e w' ⟨x, rfl, x0, x1, hs, hg⟩; have HS := Lib.hid hs; have HG := Lib.hid (Draws.grown_trans HG.out hg); clear hs hg)
      | (go_at_call 62; refine (Draws.pick_lit _ _ _ Draws.I64 _ _ HS.out (by rfl) (by decide) (by decide) (by repeat (first | exact Draws.all_nil _ | refine Draws.all_cons ⟨_, rfl, by first | exact Draws.wrap_I64 _ | (unfold Draws.I64; omega)⟩ ?_))).mono ?_; rintro e w' ⟨x, rfl, x0, hs, hg⟩; have HS := Lib.hid hs; have HG := Lib.hid (Draws.grown_trans HG.out hg); clear hs hg; unfold Draws.I64 at x0)
      | (go_at_call 67; refine (Draws.money_any _ _ HS.out).mono ?_; rintro e w' ⟨x, rfl, x0, hs, hg⟩; have HS := Lib.hid hs; have HG := Lib.hid (Draws.grown_trans HG.out hg); clear hs hg; unfold Draws.I64 at x0)
      | (go_at_call 80; refine (Draws.month_any _ _ HS.out).mono ?_; rintro e w' ⟨x, rfl, x0, hs, hg⟩; have HS := Lib.hid hs; have HG := Lib.hid (Draws.grown_trans HG.out hg); clear hs hg; unfold Draws.I64 at x0)
      | (go_at_call 88; refine (Draws.rate_any _ _ HS.out).mono ?_; rintro e w' ⟨x, rfl, x0, hs, hg⟩; have HS := Lib.hid hs; have HG := Lib.hid (Draws.grown_trans HG.out hg); clear hs hg; unfold Draws.I64 at x0)
      | (go_at_call 75; refine (Draws.pair_any _ _ HS.out).mono ?_; rintro e w' ⟨x, y, rfl, x0, y0, hs, hg⟩; have HS := Lib.hid hs; have HG := Lib.hid (Draws.grown_trans HG.out hg); clear hs hg; unfold Draws.I64 at x0 y0)
      | (at_builtin; refine wpList_append_own _ rfl _ _ 34 rfl w1.heap.size 2 i0 (.int .i64 0) 1 8 Try.underlying34 hi hz0 hz1 hz2 rfl (by decide) _ _ _ rfl ((own_keep HO.out HPB.out HG.out).alloc _) ⟨w'.heap.size, 0, none⟩ 1 1 [.int .i64 x] rfl rfl (by intro j u hj; match j, hj with | 0, hj => simp at hj; subst hj; simp [Addr.add]) (by intro u hu; simp at hu; subst hu; rfl) (by unfold maxLen; omega) (by omega) (by have := HG.out.size; have := HZ.out; simp; omega) ?_; intro v' w9 hown' hgrow hnil'))
      have HB9 := Lib.hid (app_draw (grown_below HBr.out HP.out (Nat.le_trans (Nat.le_trans HB.out.size HZ.out) (Nat.le_refl _)) HG.out) HB.out.size (Nat.le_trans HZ.out HG.out.size) HPB.out HS.out (own_keep HO.out HPB.out HG.out) hgrow)
      obtain ⟨ao', c', rfl⟩ := own_shape hown'
      have HO9 := Lib.hid hown'
      have HX := Lib.hid (all_snoc HA.out x0)
      clear hown' hgrow hnil'
      go_wp2
      go_roundw
      case rel => exact ⟨k + 1, m - 1, ao', c', rfl, rfl, by omega, by omega, ⟨_, by rw [List.map_append]; exact HO9.out, HX.out, HB9.out.2.2, HB9.out.2.1⟩, HB9.out.1⟩
      case measure => simp [intOf]; omega
    · have hm' : m ≤ 0 := by omega
      clear hm
      go_wp2_with fail
      refine (next_lit _ _ _ HS.out (by omega) (by omega)).mono ?_; rintro e w2 ⟨s0, rfl, s1, s2, hs, hg⟩; have HS := Lib.hid hs; have HG := Lib.hid (grown_trans HG.out hg); clear hs hg
      have hk12 : k ≤ 12 := by omega
      by_cases q0 : s0 = 0
      · subst q0
        go_wp2_with fail
        refine (pick_lit _ _ _ I64 _ _ HS.out (by rfl) (by decide) (by decide) (by repeat (first | exact all_nil _ | refine all_cons ⟨_, rfl, by (unfold I64; omega)⟩ ?_))).mono ?_; rintro e w' ⟨x, rfl, x0, hs, hg⟩; have HS := Lib.hid hs; have HG := Lib.hid (grown_trans HG.out hg); clear hs hg
        unfold I64 at x0
        go_wp2_with (at_builtin; refine wpList_append_own _ rfl _ _ 34 rfl w1.heap.size 2 i0 (.int .i64 0) 1 8 Try.underlying34 hi hz0 hz1 hz2 rfl (by decide) _ _ _ rfl ((own_keep HO.out HPB.out HG.out).alloc _) ⟨w'.heap.size, 0, none⟩ 1 1 [.int .i64 x] rfl rfl (by intro j u hj; match j, hj with | 0, hj => simp at hj; subst hj; simp [Addr.add]) (by intro u hu; simp at hu; subst hu; rfl) (by unfold maxLen; omega) (by omega) (by have := HG.out.size; have := HZ.out; simp; omega) ?_; intro v' w9 hown' hgrow hnil')
        have HB9 := Lib.hid (app_draw (grown_below HBr.out HP.out (Nat.le_trans HB.out.size HZ.out) HG.out) HB.out.size (Nat.le_trans HZ.out HG.out.size) HPB.out HS.out (own_keep HO.out HPB.out HG.out) hgrow)
        have HO9 := Lib.hid hown'
        have HX := Lib.hid (all_snoc HA.out x0)
        obtain ⟨ao', c', rfl⟩ := own_shape hown'
        clear hown' hgrow hnil'
        go_wp2_with fail
        refine (rate_any _ _ HB9.out.2.2).mono ?_; rintro e w10 ⟨r, rfl, r0, hs, hg⟩
        have HW := Lib.hid (grown_below HB9.out.1 HP.out (Nat.le_trans HB.out.size HB9.out.2.1) hg)
        have HO10 := Lib.hid (own_keep HO9.out HPB.out hg)
        have HR := Lib.hid r0
        clear hs hg r0
        go_wp2
        go_ret2
        have hl : ys.length = k := by have := HO.out.1; rw [List.length_map] at this; omega
        exact ⟨_, ys ++ [x], r, rfl, (sl_of_own (B := w1.heap.size) (n := k + 1) (by rw [List.map_append]; exact HO10.out) (by simp; omega)).rd, by simp; omega, HX.out, HR.out, HW.out⟩
      · have q0' : (s0 == 0) = false := by simpa using q0
        by_cases q1 : s0 = 1
        · subst q1
          clear q0 q0'
          go_wp2_with fail
          refine (next_lit _ _ _ HS.out (by omega) (by omega)).mono ?_; rintro e w' ⟨x, rfl, x0, x1, hs, hg⟩; have HS := Lib.hid hs; have HG := Lib.hid (grown_trans HG.out hg); clear hs hg
          obtain ⟨j, rfl⟩ : ∃ j : Nat, x = j := ⟨x.toNat, by omega⟩
          go_wp2_with (at_make; refine wpList_make_full _ rfl _ _ 34 rfl w1.heap.size 2 i0 (.int .i64 0) 1 Try.underlying34 hi hz0 hz1 _ _ _ _ (120 + j) rfl rfl (by omega) (by omega) (by rw [hz2]; omega) (by unfold maxLen; omega) (Nat.le_trans HZ.out HG.out.size) ?_; intro w9 hown' hgrow)
          have HS9 := Lib.hid (HS.out.keep (w' := w9) fun i hi => hgrow.block i (by have := HS.out.lt; omega) (by simp))
          have HB9 := Lib.hid ((grown_below HBr.out HP.out (Nat.le_trans HB.out.size HZ.out) HG.out).grown hgrow (Nat.le_trans HB.out.size (Nat.le_trans HZ.out HG.out.size)) (fun k hk => by cases hk))
          have HO9 := Lib.hid hown'
          have HZ9 := Lib.hid (Nat.le_trans (Nat.le_trans HZ.out HG.out.size) hgrow.size)
          clear hown' hgrow
          go_wp2_with fail
          refine (rate_any _ _ HS9.out).mono ?_; rintro e w10 ⟨r, rfl, r0, hs, hg⟩
          have HW := Lib.hid (grown_below HB9.out HP.out (Nat.le_trans HB.out.size HZ9.out) hg)
          have HO10 := Lib.hid (own_keep HO9.out HPB.out hg)
          have HR := Lib.hid r0
          clear hs hg r0
          go_wp2
          go_ret2
          refine ⟨_, List.replicate (120 + j) 0, r, rfl, ?_, by simp; omega, all_zero _, HR.out, HW.out⟩
          have := sl_of_own (w := w10) (B := w1.heap.size) (n := 120 + j) (v := _) (xs := List.replicate (120 + j) 0) (by
            rw [List.map_replicate]
            have := HO10.out
            rw [Nat.mul_one, show (Value.int .i64 0).cells = #[Value.int .i64 0] from rfl, toList_madeCells_one] at this
            exact this) (by simp; omega)
          have := this.rd
          simpa using this
        · have q1' : (s0 == 1) = false := by simpa using q1
          go_wp2_with fail
          refine (rate_any _ _ HS.out).mono ?_; rintro e w10 ⟨r, rfl, r0, hs, hg⟩
          have HW := Lib.hid (grown_below (grown_below HBr.out HP.out (Nat.le_trans HB.out.size HZ.out) HG.out) HP.out (Nat.le_trans HB.out.size (Nat.le_trans HZ.out HG.out.size)) hg)
          have HO10 := Lib.hid (own_keep (own_keep HO.out HPB.out HG.out) HPB.out hg)
          have HR := Lib.hid r0
          clear hs hg r0
          go_wp2
          go_ret2
          have hl : ys.length = k := by have := HO.out.1; rw [List.length_map] at this; omega
          exact ⟨_, ys, r, rfl, (sl_of_own (B := w1.heap.size) (n := k) HO10.out (by omega)).rd, by omega, HA.out, HR.out, HW.out⟩

end Go.Proofs.Ytdafgpikgpobbaa.Draws
