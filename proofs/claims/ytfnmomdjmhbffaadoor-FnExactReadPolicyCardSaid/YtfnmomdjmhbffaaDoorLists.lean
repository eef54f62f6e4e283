/-
  Contracts of small functions that read a slice of int64: sums, tests of a range, comparison.
  Conditions: the slice reads as a list (Mem.Rd); sums: all numbers are small enough.
-/
import Derived.Test.YtfnmomdjmhbffaaDoorMem
namespace Go.Proofs.YtfnmomdjmhbffaaDoor.Lists
open Go.RowKit Mem
set_option linter.unusedVariables false

theorem l01Within_any (v : Value) (xs : List Int) (most lo hi : Int) (w : World) (h : Rd w v xs) :
    Calls Tryd.prog 15 #[v, .int .i64 most, .int .i64 lo, .int .i64 hi] w fun e w' => e = .returned (.bool (within lo hi xs && decide ((xs.length : Int) ≤ most))) ∧ Below w.heap.size w w' := by
  rcases h with ⟨rfl, rfl⟩ | ⟨b, off, cap, rfl, hn, hl, hc, hbl, hx⟩
  · go_enter Tryd.func15, Tryd.ntmps15
    go_wp2
    refine wp_loop_rounds 1 ?_; rw [rounds_succ]
    go_wp2
    go_ret
    exact ⟨Base.ret_bool (by simp [within]), Below.refl _ _⟩
  · have HX := Lib.hid hx
    clear hx
    go_enter Tryd.func15, Tryd.ntmps15
    go_wp2
    go_loopw [9] (fun i wr => ∃ (k q : Nat), k ≤ xs.length ∧ i = .int .i64 k ∧ Hid (∀ j, j < k → lo ≤ xs.getD j 0 ∧ xs.getD j 0 ≤ hi) ∧ wr = w.drewN q) (fun i _ => xs.length - (intOf i).toNat)
    case atStart => exact ⟨0, 0, by omega, rfl, fun j hj => by omega, rfl⟩
    case round =>
      obtain ⟨k, q, hk, rfl, H, rfl⟩ := hrel
      by_cases hlt : k < xs.length
      · have hc1 : (w.drewN q).cell? ⟨b, off + k, none⟩ = some (.int .i64 (xs.getD k 0)) := HX.out k hlt
        have NW := Lib.hid (fun h => not_within (lo := lo) (hi := hi) k hlt h)
        have HS : lo ≤ xs.getD k 0 ∧ xs.getD k 0 ≤ hi → Hid (∀ j, j < k + 1 → lo ≤ xs.getD j 0 ∧ xs.getD j 0 ≤ hi) := by
          intro g j hj
          by_cases e : j = k
          · subst e; exact g
          · exact H.out j (by omega)
        have HS' := Lib.hid HS
        clear HS
        generalize xs.getD k 0 = x at hc1 NW HS'
        by_cases hg : lo ≤ x ∧ x ≤ hi
        · obtain ⟨g1, g2⟩ := hg
          go_wp2_with (first
      | (go_at_call 25; refine (Base.l01In_yes _ _ _ _ (by omega) (by omega)).mono ?_; rintro e w' ⟨rfl, rfl⟩)
      | (go_at_call 25; refine (Base.l01In_no _ _ _ _ (by omega)).mono ?_; rintro e w' ⟨rfl, rfl⟩)
      | (go_at_call 37; refine (Base.inRange_yes _ _ _ _ (by omega) (by omega)).mono ?_; rintro e w' ⟨rfl, rfl⟩)
      | (go_at_call 37; refine (Base.inRange_no _ _ _ _ (by omega)).mono ?_; rintro e w' ⟨rfl, rfl⟩)
     )
          go_roundw
          case rel => exact ⟨k + 1, _, by omega, by go_num, HS'.out ⟨g1, g2⟩, by first | rfl | exact World.drewN_drewN ..⟩
          case measure => simp [intOf]; omega
        · have hno := Lib.hid (NW.out hg)
          have hg' : x < lo ∨ hi < x := by omega
          clear hg
          go_wp2_with (first
      | (go_at_call 25; refine (Base.l01In_yes _ _ _ _ (by omega) (by omega)).mono ?_; rintro e w' ⟨rfl, rfl⟩)
      | (go_at_call 25; refine (Base.l01In_no _ _ _ _ (by omega)).mono ?_; rintro e w' ⟨rfl, rfl⟩)
      | (go_at_call 37; refine (Base.inRange_yes _ _ _ _ (by omega) (by omega)).mono ?_; rintro e w' ⟨rfl, rfl⟩)
      | (go_at_call 37; refine (Base.inRange_no _ _ _ _ (by omega)).mono ?_; rintro e w' ⟨rfl, rfl⟩)
     )
          go_ret
          exact ⟨Base.ret_bool (by rw [hno.out]; rfl), bd _ _⟩
      · obtain rfl : k = xs.length := by omega
        go_wp2
        go_ret
        exact ⟨Base.ret_bool (by rw [within_of H.out]; rfl), bd _ _⟩

theorem l01Within_yes (v : Value) (xs : List Int) (most lo hi : Int) (w : World) (h : Rd w v xs) (h1 : within lo hi xs = true) (h2 : (xs.length : Int) ≤ most) :
    Calls Tryd.prog 15 #[v, .int .i64 most, .int .i64 lo, .int .i64 hi] w fun e w' => e = .returned (.bool true) ∧ Below w.heap.size w w' :=
  (l01Within_any v xs most lo hi w h).mono fun e w' ⟨he, hb⟩ => ⟨by rw [he, h1]; simp [h2], hb⟩

theorem l01Within_no (v : Value) (xs : List Int) (most lo hi : Int) (w : World) (h : Rd w v xs) (h1 : within lo hi xs = false ∨ most < (xs.length : Int)) :
    Calls Tryd.prog 15 #[v, .int .i64 most, .int .i64 lo, .int .i64 hi] w fun e w' => e = .returned (.bool false) ∧ Below w.heap.size w w' :=
  (l01Within_any v xs most lo hi w h).mono fun e w' ⟨he, hb⟩ => ⟨by
    rw [he]; rcases h1 with h1 | h1
    · rw [h1]; rfl
    · rw [show decide ((xs.length : Int) ≤ most) = false from by simp; omega, Bool.and_false], hb⟩

/-- The function value that allIn makes: its test, over the two bounds that lie in blocks of their own. -/
def test (pl ph : Nat) : Value := .func (.func 36) #[] #[.pointer (some ⟨pl, 0, none⟩), .pointer (some ⟨ph, 0, none⟩)]

theorem allIn1_in (x lo hi : Int) (pl ph : Nat) (w : World) (hl : w.cell? ⟨pl, 0, none⟩ = some (.int .i64 lo)) (hh : w.cell? ⟨ph, 0, none⟩ = some (.int .i64 hi)) (h1 : lo ≤ x) (h2 : x ≤ hi) :
    Calls Tryd.prog 36 #[.int .i64 x, .pointer (some ⟨pl, 0, none⟩), .pointer (some ⟨ph, 0, none⟩)] w fun e w' => e = .returned (.bool false) ∧ ∃ q, w' = w.drewN q := by
  go_enter Tryd.func36, Tryd.ntmps36
  go_wp2_with (first
      | (go_at_call 25; refine (Base.l01In_yes _ _ _ _ (by omega) (by omega)).mono ?_; rintro e w' ⟨rfl, rfl⟩)
      | (go_at_call 25; refine (Base.l01In_no _ _ _ _ (by omega)).mono ?_; rintro e w' ⟨rfl, rfl⟩)
      | (go_at_call 37; refine (Base.inRange_yes _ _ _ _ (by omega) (by omega)).mono ?_; rintro e w' ⟨rfl, rfl⟩)
      | (go_at_call 37; refine (Base.inRange_no _ _ _ _ (by omega)).mono ?_; rintro e w' ⟨rfl, rfl⟩)
     )
  go_ret
  exact ⟨rfl, 0, rfl⟩

theorem allIn1_out (x lo hi : Int) (pl ph : Nat) (w : World) (hl : w.cell? ⟨pl, 0, none⟩ = some (.int .i64 lo)) (hh : w.cell? ⟨ph, 0, none⟩ = some (.int .i64 hi)) (h : x < lo ∨ hi < x) :
    Calls Tryd.prog 36 #[.int .i64 x, .pointer (some ⟨pl, 0, none⟩), .pointer (some ⟨ph, 0, none⟩)] w fun e w' => e = .returned (.bool true) ∧ ∃ q, w' = w.drewN q := by
  go_enter Tryd.func36, Tryd.ntmps36
  go_wp2_with (first
      | (go_at_call 25; refine (Base.l01In_yes _ _ _ _ (by omega) (by omega)).mono ?_; rintro e w' ⟨rfl, rfl⟩)
      | (go_at_call 25; refine (Base.l01In_no _ _ _ _ (by omega)).mono ?_; rintro e w' ⟨rfl, rfl⟩)
      | (go_at_call 37; refine (Base.inRange_yes _ _ _ _ (by omega) (by omega)).mono ?_; rintro e w' ⟨rfl, rfl⟩)
      | (go_at_call 37; refine (Base.inRange_no _ _ _ _ (by omega)).mono ?_; rintro e w' ⟨rfl, rfl⟩)
     )
  go_ret
  exact ⟨rfl, 0, rfl⟩

def Found (b : Bool) (w : World) (e : Ending) (w' : World) : Prop := (∃ r : Int, e = .returned (.int .i64 r) ∧ (b = true → r = -1) ∧ (b = false → 0 ≤ r)) ∧ ∃ q, w' = w.drewN q

theorem indexFunc_any (v : Value) (xs : List Int) (lo hi : Int) (pl ph : Nat) (w : World) (h : Rd w v xs) (hl : w.cell? ⟨pl, 0, none⟩ = some (.int .i64 lo)) (hh : w.cell? ⟨ph, 0, none⟩ = some (.int .i64 hi)) :
    Calls Tryd.prog 51 #[v, .func (.func 36) #[] #[.pointer (some ⟨pl, 0, none⟩), .pointer (some ⟨ph, 0, none⟩)]] w (Found (within lo hi xs) w) := by
  rcases h with ⟨rfl, rfl⟩ | ⟨b, off, cap, rfl, hn, hln, hc, hbl, hx⟩
  · go_enter Tryd.func51, Tryd.ntmps51
    go_wp2
    refine wp_loop_rounds 1 ?_; rw [rounds_succ]
    go_wp2
    go_ret
    exact ⟨⟨-1, rfl, fun _ => rfl, fun h => by simp [within] at h⟩, 0, rfl⟩
  · have HX := Lib.hid hx
    clear hx
    go_enter Tryd.func51, Tryd.ntmps51
    go_wp2
    go_loopw [8] (fun i wr => ∃ (k q : Nat), k ≤ xs.length ∧ i = .int .i64 k ∧ Hid (∀ j, j < k → lo ≤ xs.getD j 0 ∧ xs.getD j 0 ≤ hi) ∧ wr = w.drewN q) (fun i _ => xs.length - (intOf i).toNat)
    case atStart => exact ⟨0, 0, by omega, rfl, fun j hj => by omega, rfl⟩
    case round =>
      obtain ⟨k, q, hk, rfl, H, rfl⟩ := hrel
      have hlr : (w.drewN q).cell? ⟨pl, 0, none⟩ = some (.int .i64 lo) := hl
      have hhr : (w.drewN q).cell? ⟨ph, 0, none⟩ = some (.int .i64 hi) := hh
      by_cases hlt : k < xs.length
      · have hc1 : (w.drewN q).cell? ⟨b, off + k, none⟩ = some (.int .i64 (xs.getD k 0)) := HX.out k hlt
        have NW := Lib.hid (fun h => not_within (lo := lo) (hi := hi) k hlt h)
        have HS : lo ≤ xs.getD k 0 ∧ xs.getD k 0 ≤ hi → Hid (∀ j, j < k + 1 → lo ≤ xs.getD j 0 ∧ xs.getD j 0 ≤ hi) := by
          intro g j hj
          by_cases e : j = k
          · subst e; exact g
          · exact H.out j (by omega)
        have HS' := Lib.hid HS
        clear HS
        generalize xs.getD k 0 = x at hc1 NW HS'
        by_cases hg : lo ≤ x ∧ x ≤ hi
        · obtain ⟨g1, g2⟩ := hg
          go_wp2_with (first | (go_at_call 36; refine (allIn1_in _ lo hi pl ph _ hlr hhr (by omega) (by omega)).mono ?_; rintro e w' ⟨rfl, q2, rfl⟩) | (go_at_call 36; refine (allIn1_out _ lo hi pl ph _ hlr hhr (by omega)).mono ?_; rintro e w' ⟨rfl, q2, rfl⟩))
          go_roundw
          case rel => exact ⟨k + 1, _, by omega, by go_num, HS'.out ⟨g1, g2⟩, by first | rfl | exact World.drewN_drewN ..⟩
          case measure => simp [intOf]; omega
        · have hno := Lib.hid (NW.out hg)
          have hg' : x < lo ∨ hi < x := by omega
          clear hg
          go_wp2_with (first | (go_at_call 36; refine (allIn1_in _ lo hi pl ph _ hlr hhr (by omega) (by omega)).mono ?_; rintro e w' ⟨rfl, q2, rfl⟩) | (go_at_call 36; refine (allIn1_out _ lo hi pl ph _ hlr hhr (by omega)).mono ?_; rintro e w' ⟨rfl, q2, rfl⟩))
          go_ret
          exact ⟨⟨_, rfl, (fun h => by rw [hno.out] at h; cases h), (fun _ => by omega)⟩, _, by first | rfl | exact World.drewN_drewN ..⟩
      · obtain rfl : k = xs.length := by omega
        go_wp2
        go_ret
        exact ⟨⟨_, rfl, (fun _ => rfl), (fun h => by rw [within_of H.out] at h; cases h)⟩, _, rfl⟩

theorem containsFunc_any (v : Value) (xs : List Int) (lo hi : Int) (pl ph : Nat) (w : World) (h : Rd w v xs) (hl : w.cell? ⟨pl, 0, none⟩ = some (.int .i64 lo)) (hh : w.cell? ⟨ph, 0, none⟩ = some (.int .i64 hi)) :
    Calls Tryd.prog 35 #[v, .func (.func 36) #[] #[.pointer (some ⟨pl, 0, none⟩), .pointer (some ⟨ph, 0, none⟩)]] w fun e w' => e = .returned (.bool (!within lo hi xs)) ∧ ∃ q, w' = w.drewN q := by
  have IF := Lib.hid (indexFunc_any v xs lo hi pl ph w h hl hh)
  clear h hl hh
  go_enter Tryd.func35, Tryd.ntmps35
  cases hw : within lo hi xs with
  | true =>
    have HW := Lib.hid hw
    clear hw
    go_wp2_with (go_at_call 51; refine IF.out.mono ?_; rintro e w' ⟨⟨r, rfl, hr1, hr2⟩, q, rfl⟩; obtain rfl := hr1 HW.out; clear hr1 hr2)
    go_ret
    exact ⟨rfl, _, rfl⟩
  | false =>
    have HW := Lib.hid hw
    clear hw
    go_wp2_with (go_at_call 51; refine IF.out.mono ?_; rintro e w' ⟨⟨r, rfl, hr1, hr2⟩, q, rfl⟩; have hr3 := hr2 HW.out; clear hr1 hr2)
    go_ret
    exact ⟨rfl, _, rfl⟩

theorem allIn_any (v : Value) (xs : List Int) (lo hi : Int) (w : World) (h : Rd w v xs) :
    Calls Tryd.prog 21 #[v, .int .i64 lo, .int .i64 hi] w fun e w' => e = .returned (.bool (within lo hi xs)) ∧ Below w.heap.size w w' := by
  have hr : ∀ o1 o2, Rd ((w.alloc o1).alloc o2) v xs := fun o1 o2 => h.below (((Below.refl _ _).alloc (by omega) _).alloc (by simp) _)
  have HR := Lib.hid hr
  clear hr h
  go_enter Tryd.func21, Tryd.ntmps21
  go_wp2_with (go_at_call 35; refine (containsFunc_any v xs lo hi _ _ _ (HR.out _ _) (by simp [go_sem]) (by simp [go_sem])).mono ?_; rintro e w' ⟨rfl, q, rfl⟩)
  go_ret
  exact ⟨rfl, below_drewN (((Below.refl _ _).alloc (by omega) _).alloc (by simp) _) _⟩

end Go.Proofs.YtfnmomdjmhbffaaDoor.Lists
