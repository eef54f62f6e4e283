/-
  Contracts of small functions that read a slice of int64: sums, tests of a range, comparison.
  Conditions: the slice reads as a list (Mem.Rd); sums: all numbers are small enough.
-/
import Derived.Test.YtenaeehefamdmaaMem
namespace Go.Proofs.Ytenaeehefamdmaa.Lists
open Go.RowKit Mem
set_option linter.unusedVariables false

theorem total_any (v : Value) (xs : List Int) (w : World) (h : Rd w v xs) (m : Int) (hm : 0 ≤ m) (hb : within (-m) m xs = true) (hs : m * xs.length ≤ 9000000000000000000) :
    Calls Try.prog 35 #[v] w fun e w' => e = .returned (.int .i64 xs.sum) ∧ Below w.heap.size w w' := by
  have SB := Lib.hid (sum_bd m hm xs hb)
  have WG := Lib.hid (fun i hi => within_get hb i hi)
  clear hb
  rcases h with ⟨rfl, rfl⟩ | ⟨b, off, cap, rfl, hn, hl, hc, hbl, hx⟩
  · go_enter Try.func35, Try.ntmps35
    go_wp2
    refine wp_loop_rounds 1 ?_; rw [rounds_succ]
    go_wp2
    go_ret
    exact ⟨rfl, Below.refl _ _⟩
  · have HX := Lib.hid hx
    clear hx
    go_enter Try.func35, Try.ntmps35
    go_wp2
    go_loopw [3, 8] (fun o i wr => ∃ (k : Nat) (s : Int) (q : Nat), k ≤ xs.length ∧ -(m * k) ≤ s ∧ s ≤ m * k ∧ i = .int .i64 k ∧ o = .int .i64 s ∧ Hid (s = (xs.take k).sum) ∧ wr = w.drewN q) (fun _ i _ => xs.length - (intOf i).toNat)
    case atStart => exact ⟨0, 0, 0, by omega, by omega, by omega, rfl, rfl, rfl, rfl⟩
    case round =>
      obtain ⟨k, s, q, hk, hs1, hs2, rfl, rfl, H, rfl⟩ := hrel
      by_cases hlt : k < xs.length
      · have hg := WG.out k hlt
        have hmk : m * k + m ≤ 9000000000000000000 := by
          have : m * ((k : Int) + 1) ≤ m * xs.length := Int.mul_le_mul_of_nonneg_left (by omega) hm
          rw [Int.mul_add, Int.mul_one] at this; omega
        have hmm : m * ((k + 1 : Nat) : Int) = m * k + m := by rw [show ((k + 1 : Nat) : Int) = (k : Int) + 1 from rfl, Int.mul_add, Int.mul_one]
        have HM := Lib.hid hmm
        clear hmm
        have ST := Lib.hid (sum_take_succ xs k hlt)
        have hc1 : (w.drewN q).cell? ⟨b, off + k, none⟩ = some (.int .i64 (xs.getD k 0)) := HX.out k hlt
        generalize xs.getD k 0 = x at *
        go_wp2
        go_roundw
        case rel => exact ⟨k + 1, s + x, _, by omega, by rw [HM.out]; omega, by rw [HM.out]; omega, by go_num, rfl, by show _ = _; rw [ST.out, ← H.out], by first | rfl | exact World.drewN_drewN ..⟩
        case measure => simp [intOf]; omega
      · obtain rfl : k = xs.length := by omega
        go_wp2
        go_ret
        exact ⟨Base.ret_int (by rw [H.out, List.take_length]), bd _ _⟩

theorem l01Sum_any (v : Value) (xs : List Int) (w : World) (h : Rd w v xs) (m : Int) (hm : 0 ≤ m) (hb : within (-m) m xs = true) (hs : m * xs.length ≤ 9000000000000000000) :
    Calls Try.prog 31 #[v] w fun e w' => e = .returned (.int .i64 xs.sum) ∧ Below w.heap.size w w' := by
  have SB := Lib.hid (sum_bd m hm xs hb)
  have WG := Lib.hid (fun i hi => within_get hb i hi)
  clear hb
  rcases h with ⟨rfl, rfl⟩ | ⟨b, off, cap, rfl, hn, hl, hc, hbl, hx⟩
  · go_enter Try.func31, Try.ntmps31
    go_wp2
    refine wp_loop_rounds 1 ?_; rw [rounds_succ]
    go_wp2
    go_ret
    exact ⟨rfl, Below.refl _ _⟩
  · have HX := Lib.hid hx
    clear hx
    go_enter Try.func31, Try.ntmps31
    go_wp2
    go_loopw [3, 4] (fun o i wr => ∃ (k : Nat) (s : Int) (q : Nat), k ≤ xs.length ∧ -(m * k) ≤ s ∧ s ≤ m * k ∧ i = .int .i64 k ∧ o = .int .i64 s ∧ Hid (s = (xs.take k).sum) ∧ wr = w.drewN q) (fun _ i _ => xs.length - (intOf i).toNat)
    case atStart => exact ⟨0, 0, 0, by omega, by omega, by omega, rfl, rfl, rfl, rfl⟩
    case round =>
      obtain ⟨k, s, q, hk, hs1, hs2, rfl, rfl, H, rfl⟩ := hrel
      by_cases hlt : k < xs.length
      · have hg := WG.out k hlt
        have hmk : m * k + m ≤ 9000000000000000000 := by
          have : m * ((k : Int) + 1) ≤ m * xs.length := Int.mul_le_mul_of_nonneg_left (by omega) hm
          rw [Int.mul_add, Int.mul_one] at this; omega
        have hmm : m * ((k + 1 : Nat) : Int) = m * k + m := by rw [show ((k + 1 : Nat) : Int) = (k : Int) + 1 from rfl, Int.mul_add, Int.mul_one]
        have HM := Lib.hid hmm
        clear hmm
        have ST := Lib.hid (sum_take_succ xs k hlt)
        have hc1 : (w.drewN q).cell? ⟨b, off + k, none⟩ = some (.int .i64 (xs.getD k 0)) := HX.out k hlt
        generalize xs.getD k 0 = x at *
        go_wp2
        go_roundw
        case rel => exact ⟨k + 1, s + x, _, by omega, by rw [HM.out]; omega, by rw [HM.out]; omega, by go_num, rfl, by show _ = _; rw [ST.out, ← H.out], by first | rfl | exact World.drewN_drewN ..⟩
        case measure => simp [intOf]; omega
      · obtain rfl : k = xs.length := by omega
        go_wp2
        go_ret
        exact ⟨Base.ret_int (by rw [H.out, List.take_length]), bd _ _⟩

theorem l01Within_any (v : Value) (xs : List Int) (most lo hi : Int) (w : World) (h : Rd w v xs) :
    Calls Try.prog 30 #[v, .int .i64 most, .int .i64 lo, .int .i64 hi] w fun e w' => e = .returned (.bool (within lo hi xs && decide ((xs.length : Int) ≤ most))) ∧ Below w.heap.size w w' := by
  rcases h with ⟨rfl, rfl⟩ | ⟨b, off, cap, rfl, hn, hl, hc, hbl, hx⟩
  · go_enter Try.func30, Try.ntmps30
    go_wp2
    refine wp_loop_rounds 1 ?_; rw [rounds_succ]
    go_wp2
    go_ret
    exact ⟨Base.ret_bool (by simp [within]), Below.refl _ _⟩
  · have HX := Lib.hid hx
    clear hx
    go_enter Try.func30, Try.ntmps30
    go_wp2
    go_loopw [9] (fun i wr => ∃ (k q : Nat), k ≤ xs.length ∧ i = .int .i64 k ∧ Hid (∀ j, j < k → lo ≤ xs.getD j 0 ∧ xs.getD j 0 ≤ hi) ∧ wr = w.drewN q) (fun i _ => xs.length - (intOf i).toNat)
    case atStart => exact ⟨0, 0, by omega, rfl, fun j hj => by omega, rfl⟩
    case round =>
      obtain ⟨k, q, hk, rfl, H, rfl⟩ := hrel
      by_cases hlt : k < xs.length
      · have hc1 : (w.drewN q).cell? ⟨b, off + k, none⟩ = some (.int .i64 (xs.getD k 0)) := HX.out k hlt
        have NW := Lib.hid (fun h => not_within (lo := lo) (hi := hi) k hlt h)
        have HS : lo ≤ xs.getD k 0 ∧ xs.getD k 0 ≤ hi → Hid (∀ j, j < k + 1 → lo ≤ xs.getD j 0 ∧ xs.getD j 0 ≤ hi) := by
          intro g j hj
          by_cases e : j = k
          · subst e; exact g
          · exact H.out j (by omega)
        have HS' := Lib.hid HS
        clear HS
        generalize xs.getD k 0 = x at hc1 NW HS'
        by_cases hg : lo ≤ x ∧ x ≤ hi
        · obtain ⟨g1, g2⟩ := hg
          go_wp2_with (first
      | (go_at_call 25; refine (Base.l01In_yes _ _ _ _ (by omega) (by omega)).mono ?_; rintro e w' ⟨rfl, rfl⟩)
      | (go_at_call 25; refine (Base.l01In_no _ _ _ _ (by omega)).mono ?_; rintro e w' ⟨rfl, rfl⟩)
      | (go_at_call 33; refine (Base.inRange_yes _ _ _ _ (by omega) (by omega)).mono ?_; rintro e w' ⟨rfl, rfl⟩)
      | (go_at_call 33; refine (Base.inRange_no _ _ _ _ (by omega)).mono ?_; rintro e w' ⟨rfl, rfl⟩)
     )
          go_roundw
          case rel => exact ⟨k + 1, _, by omega, by go_num, HS'.out ⟨g1, g2⟩, by first | rfl | exact World.drewN_drewN ..⟩
          case measure => simp [intOf]; omega
        · have hno := Lib.hid (NW.out hg)
          have hg' : x < lo ∨ hi < x := by omega
          clear hg
          go_wp2_with (first
      | (go_at_call 25; refine (Base.l01In_yes _ _ _ _ (by omega) (by omega)).mono ?_; rintro e w' ⟨rfl, rfl⟩)
      | (go_at_call 25; refine (Base.l01In_no _ _ _ _ (by omega)).mono ?_; rintro e w' ⟨rfl, rfl⟩)
      | (go_at_call 33; refine (Base.inRange_yes _ _ _ _ (by omega) (by omega)).mono ?_; rintro e w' ⟨rfl, rfl⟩)
      | (go_at_call 33; refine (Base.inRange_no _ _ _ _ (by omega)).mono ?_; rintro e w' ⟨rfl, rfl⟩)
     )
          go_ret
          exact ⟨Base.ret_bool (by rw [hno.out]; rfl), bd _ _⟩
      · obtain rfl : k = xs.length := by omega
        go_wp2
        go_ret
        exact ⟨Base.ret_bool (by rw [within_of H.out]; rfl), bd _ _⟩

theorem l01Within_yes (v : Value) (xs : List Int) (most lo hi : Int) (w : World) (h : Rd w v xs) (h1 : within lo hi xs = true) (h2 : (xs.length : Int) ≤ most) :
    Calls Try.prog 30 #[v, .int .i64 most, .int .i64 lo, .int .i64 hi] w fun e w' => e = .returned (.bool true) ∧ Below w.heap.size w w' :=
  (l01Within_any v xs most lo hi w h).mono fun e w' ⟨he, hb⟩ => ⟨by rw [he, h1]; simp [h2], hb⟩

theorem l01Within_no (v : Value) (xs : List Int) (most lo hi : Int) (w : World) (h : Rd w v xs) (h1 : within lo hi xs = false ∨ most < (xs.length : Int)) :
    Calls Try.prog 30 #[v, .int .i64 most, .int .i64 lo, .int .i64 hi] w fun e w' => e = .returned (.bool false) ∧ Below w.heap.size w w' :=
  (l01Within_any v xs most lo hi w h).mono fun e w' ⟨he, hb⟩ => ⟨by
    rw [he]; rcases h1 with h1 | h1
    · rw [h1]; rfl
    · rw [show decide ((xs.length : Int) ≤ most) = false from by simp; omega, Bool.and_false], hb⟩

/-- The function value that allIn makes: its test, over the two bounds that lie in blocks of their own. -/
def test (pl ph : Nat) : Value := .func (.func 48) #[] #[.pointer (some ⟨pl, 0, none⟩), .pointer (some ⟨ph, 0, none⟩)]

theorem allIn1_in (x lo hi : Int) (pl ph : Nat) (w : World) (hl : w.cell? ⟨pl, 0, none⟩ = some (.int .i64 lo)) (hh : w.cell? ⟨ph, 0, none⟩ = some (.int .i64 hi)) (h1 : lo ≤ x) (h2 : x ≤ hi) :
    Calls Try.prog 48 #[.int .i64 x, .pointer (some ⟨pl, 0, none⟩), .pointer (some ⟨ph, 0, none⟩)] w fun e w' => e = .returned (.bool false) ∧ ∃ q, w' = w.drewN q := by
  go_enter Try.func48, Try.ntmps48
  go_wp2_with (first
      | (go_at_call 25; refine (Base.l01In_yes _ _ _ _ (by omega) (by omega)).mono ?_; rintro e w' ⟨rfl, rfl⟩)
      | (go_at_call 25; refine (Base.l01In_no _ _ _ _ (by omega)).mono ?_; rintro e w' ⟨rfl, rfl⟩)
      | (go_at_call 33; refine (Base.inRange_yes _ _ _ _ (by omega) (by omega)).mono ?_; rintro e w' ⟨rfl, rfl⟩)
      | (go_at_call 33; refine (Base.inRange_no _ _ _ _ (by omega)).mono ?_; rintro e w' ⟨rfl, rfl⟩)
     )
  go_ret
  exact ⟨rfl, 0, rfl⟩

theorem allIn1_out (x lo hi : Int) (pl ph : Nat) (w : World) (hl : w.cell? ⟨pl, 0, none⟩ = some (.int .i64 lo)) (hh : w.cell? ⟨ph, 0, none⟩ = some (.int .i64 hi)) (h : x < lo ∨ hi < x) :
    Calls Try.prog 48 #[.int .i64 x, .pointer (some ⟨pl, 0, none⟩), .pointer (some ⟨ph, 0, none⟩)] w fun e w' => e = .returned (.bool true) ∧ ∃ q, w' = w.drewN q := by
  go_enter Try.func48, Try.ntmps48
  go_wp2_with (first
      | (go_at_call 25; refine (Base.l01In_yes _ _ _ _ (by omega) (by omega)).mono ?_; rintro e w' ⟨rfl, rfl⟩)
      | (go_at_call 25; refine (Base.l01In_no _ _ _ _ (by omega)).mono ?_; rintro e w' ⟨rfl, rfl⟩)
      | (go_at_call 33; refine (Base.inRange_yes _ _ _ _ (by omega) (by omega)).mono ?_; rintro e w' ⟨rfl, rfl⟩)
      | (go_at_call 33; refine (Base.inRange_no _ _ _ _ (by omega)).mono ?_; rintro e w' ⟨rfl, rfl⟩)
     )
  go_ret
  exact ⟨rfl, 0, rfl⟩

def Found (b : Bool) (w : World) (e : Ending) (w' : World) : Prop := (∃ r : Int, e = .returned (.int .i64 r) ∧ (b = true → r = -1) ∧ (b = false → 0 ≤ r)) ∧ ∃ q, w' = w.drewN q

theorem indexFunc_any (v : Value) (xs : List Int) (lo hi : Int) (pl ph : Nat) (w : World) (h : Rd w v xs) (hl : w.cell? ⟨pl, 0, none⟩ = some (.int .i64 lo)) (hh : w.cell? ⟨ph, 0, none⟩ = some (.int .i64 hi)) :
    Calls Try.prog 54 #[v, .func (.func 48) #[] #[.pointer (some ⟨pl, 0, none⟩), .pointer (some ⟨ph, 0, none⟩)]] w (Found (within lo hi xs) w) := by
  rcases h with ⟨rfl, rfl⟩ | ⟨b, off, cap, rfl, hn, hln, hc, hbl, hx⟩
  · go_enter Try.func54, Try.ntmps54
    go_wp2
    refine wp_loop_rounds 1 ?_; rw [rounds_succ]
    go_wp2
    go_ret
    exact ⟨⟨-1, rfl, fun _ => rfl, fun h => by simp [within] at h⟩, 0, rfl⟩
  · have HX := Lib.hid hx
    clear hx
    go_enter Try.func54, Try.ntmps54
    go_wp2
    go_loopw [8] (fun i wr => ∃ (k q : Nat), k ≤ xs.length ∧ i = .int .i64 k ∧ Hid (∀ j, j < k → lo ≤ xs.getD j 0 ∧ xs.getD j 0 ≤ hi) ∧ wr = w.drewN q) (fun i _ => xs.length - (intOf i).toNat)
    case atStart => exact ⟨0, 0, by omega, rfl, fun j hj => by omega, rfl⟩
    case round =>
      obtain ⟨k, q, hk, rfl, H, rfl⟩ := hrel
      have hlr : (w.drewN q).cell? ⟨pl, 0, none⟩ = some (.int .i64 lo) := hl
      have hhr : (w.drewN q).cell? ⟨ph, 0, none⟩ = some (.int .i64 hi) := hh
      by_cases hlt : k < xs.length
      · have hc1 : (w.drewN q).cell? ⟨b, off + k, none⟩ = some (.int .i64 (xs.getD k 0)) := HX.out k hlt
        have NW := Lib.hid (fun h => not_within (lo := lo) (hi := hi) k hlt h)
        have HS : lo ≤ xs.getD k 0 ∧ xs.getD k 0 ≤ hi → Hid (∀ j, j < k + 1 → lo ≤ xs.getD j 0 ∧ xs.getD j 0 ≤ hi) := by
          intro g j hj
          by_cases e : j = k
          · subst e; exact g
          · exact H.out j (by omega)
        have HS' := Lib.hid HS
        clear HS
        generalize xs.getD k 0 = x at hc1 NW HS'
        by_cases hg : lo ≤ x ∧ x ≤ hi
        · obtain ⟨g1, g2⟩ := hg
          go_wp2_with (first | (go_at_call 48; refine (allIn1_in _ lo hi pl ph _ hlr hhr (by omega) (by omega)).mono ?_; rintro e w' ⟨rfl, q2, rfl⟩) | (go_at_call 48; refine (allIn1_out _ lo hi pl ph _ hlr hhr (by omega)).mono ?_; rintro e w' ⟨rfl, q2, rfl⟩))
          go_roundw
          case rel => exact ⟨k + 1, _, by omega, by go_num, HS'.out ⟨g1, g2⟩, by first | rfl | exact World.drewN_drewN ..⟩
          case measure => simp [intOf]; omega
        · have hno := Lib.hid (NW.out hg)
          have hg' : x < lo ∨ hi < x := by omega
          clear hg
          go_wp2_with (first | (go_at_call 48; refine (allIn1_in _ lo hi pl ph _ hlr hhr (by omega) (by omega)).mono ?_; rintro e w' ⟨rfl, q2, rfl⟩) | (go_at_call 48; refine (allIn1_out _ lo hi pl ph _ hlr hhr (by omega)).mono ?_; rintro e w' ⟨rfl, q2, rfl⟩))
          go_ret
          exact ⟨⟨_, rfl, (fun h => by rw [hno.out] at h; cases h), (fun _ => by omega)⟩, _, by first | rfl | exact World.drewN_drewN ..⟩
      · obtain rfl : k = xs.length := by omega
        go_wp2
        go_ret
        exact ⟨⟨_, rfl, (fun _ => rfl), (fun h => by rw [within_of H.out] at h; cases h)⟩, _, rfl⟩

theorem containsFunc_any (v : Value) (xs : List Int) (lo hi : Int) (pl ph : Nat) (w : World) (h : Rd w v xs) (hl : w.cell? ⟨pl, 0, none⟩ = some (.int .i64 lo)) (hh : w.cell? ⟨ph, 0, none⟩ = some (.int .i64 hi)) :
    Calls Try.prog 47 #[v, .func (.func 48) #[] #[.pointer (some ⟨pl, 0, none⟩), .pointer (some ⟨ph, 0, none⟩)]] w fun e w' => e = .returned (.bool (!within lo hi xs)) ∧ ∃ q, w' = w.drewN q := by
  have IF := Lib.hid (indexFunc_any v xs lo hi pl ph w h hl hh)
  clear h hl hh
  go_enter Try.func47, Try.ntmps47
  cases hw : within lo hi xs with
  | true =>
    have HW := Lib.hid hw
    clear hw
    go_wp2_with (go_at_call 54; refine IF.out.mono ?_; rintro e w' ⟨⟨r, rfl, hr1, hr2⟩, q, rfl⟩; obtain rfl := hr1 HW.out; clear hr1 hr2)
    go_ret
    exact ⟨rfl, _, rfl⟩
  | false =>
    have HW := Lib.hid hw
    clear hw
    go_wp2_with (go_at_call 54; refine IF.out.mono ?_; rintro e w' ⟨⟨r, rfl, hr1, hr2⟩, q, rfl⟩; have hr3 := hr2 HW.out; clear hr1 hr2)
    go_ret
    exact ⟨rfl, _, rfl⟩

theorem allIn_any (v : Value) (xs : List Int) (lo hi : Int) (w : World) (h : Rd w v xs) :
    Calls Try.prog 34 #[v, .int .i64 lo, .int .i64 hi] w fun e w' => e = .returned (.bool (within lo hi xs)) ∧ Below w.heap.size w w' := by
  have hr : ∀ o1 o2, Rd ((w.alloc o1).alloc o2) v xs := fun o1 o2 => h.below (((Below.refl _ _).alloc (by omega) _).alloc (by simp) _)
  have HR := Lib.hid hr
  clear hr h
  go_enter Try.func34, Try.ntmps34
  go_wp2_with (go_at_call 47; refine (containsFunc_any v xs lo hi _ _ _ (HR.out _ _) (by simp [go_sem]) (by simp [go_sem])).mono ?_; rintro e w' ⟨rfl, q, rfl⟩)
  go_ret
  exact ⟨rfl, below_drewN (((Below.refl _ _).alloc (by omega) _).alloc (by simp) _) _⟩

/-- Two lists are equal. -/
theorem eq_of_get {xs ys : List Int} (hl : xs.length = ys.length) (h : ∀ i, i < xs.length → xs.getD i 0 = ys.getD i 0) : xs = ys := by
  apply List.ext_getElem hl
  intro i h1 h2
  have := h i h1
  rwa [getD_lt h1, getD_lt h2] at this

theorem eqInt64S_lens (v u : Value) (xs ys : List Int) (w : World) (h : Rd w v xs) (g : Rd w u ys) (hne : xs.length ≠ ys.length) :
    Calls Try.prog 11 #[v, u] w fun e w' => e = .returned (.bool false) ∧ Below w.heap.size w w' := by
  have hv : ∃ a n c, v = .slice a n c ∧ Hid (n = xs.length) := by
    rcases h with ⟨rfl, rfl⟩ | ⟨b, off, cap, rfl, _⟩
    · exact ⟨_, _, _, rfl, rfl⟩
    · exact ⟨_, _, _, rfl, rfl⟩
  have hu : ∃ a n c, u = .slice a n c ∧ Hid (n = ys.length) := by
    rcases g with ⟨rfl, rfl⟩ | ⟨b, off, cap, rfl, _⟩
    · exact ⟨_, _, _, rfl, rfl⟩
    · exact ⟨_, _, _, rfl, rfl⟩
  clear h g
  obtain ⟨a1, n1, c1, rfl, e1⟩ := hv
  obtain ⟨a2, n2, c2, rfl, e2⟩ := hu
  have hd : n1 < n2 ∨ n2 < n1 := by have := e1.out; have := e2.out; omega
  clear hne
  go_enter Try.func11, Try.ntmps11
  go_wp2
  go_ret
  exact ⟨rfl, Below.refl _ _⟩

set_option maxHeartbeats 400000 in
theorem eqInt64S_any (v u : Value) (xs ys : List Int) (w : World) (h : Rd w v xs) (g : Rd w u ys) :
    Calls Try.prog 11 #[v, u] w fun e w' => e = .returned (.bool (decide (xs = ys))) ∧ Below w.heap.size w w' := by
  by_cases hl : xs.length = ys.length
  · by_cases h0 : xs = []
    · subst h0
      obtain rfl : ys = [] := by cases ys with
        | nil => rfl
        | cons a l => simp at hl
      have hv : ∃ a c, v = .slice a 0 c := by
        rcases h with ⟨rfl, _⟩ | ⟨b, off, cap, rfl, _⟩
        · exact ⟨_, _, rfl⟩
        · exact ⟨_, _, rfl⟩
      have hu : ∃ a c, u = .slice a 0 c := by
        rcases g with ⟨rfl, _⟩ | ⟨b, off, cap, rfl, _⟩
        · exact ⟨_, _, rfl⟩
        · exact ⟨_, _, rfl⟩
      clear h g hl
      obtain ⟨a1, c1, rfl⟩ := hv
      obtain ⟨a2, c2, rfl⟩ := hu
      go_enter Try.func11, Try.ntmps11
      go_wp2
      refine wp_loop_rounds 1 ?_; rw [rounds_succ]
      go_wp2
      go_ret
      exact ⟨Base.ret_bool (by simp), Below.refl _ _⟩
    · have hpos : 0 < xs.length := List.length_pos_iff.2 h0
      clear h0
      rcases h with ⟨rfl, rfl⟩ | ⟨b, off, cap, rfl, hn, hln, hc, hbl, hx⟩
      · simp at hpos
      rcases g with ⟨rfl, rfl⟩ | ⟨b2, off2, cap2, rfl, hn2, hln2, hc2, hbl2, hx2⟩
      · simp at hl; subst hl; simp at hpos
      rw [← hl] at hn2 hln2 hx2 ⊢
      have HX := Lib.hid hx
      have HX2 := Lib.hid hx2
      have HL := Lib.hid hl
      clear hx hx2 hl
      go_enter Try.func11, Try.ntmps11
      go_wp2
      go_loopw [5] (fun i wr => ∃ (k q : Nat), k ≤ xs.length ∧ i = .int .i64 k ∧ Hid (∀ j, j < k → xs.getD j 0 = ys.getD j 0) ∧ wr = w.drewN q) (fun i _ => xs.length - (intOf i).toNat)
      case atStart => exact ⟨0, 0, by omega, rfl, fun j hj => by omega, rfl⟩
      case round =>
        obtain ⟨k, q, hk, rfl, H, rfl⟩ := hrel
        by_cases hlt : k < xs.length
        · have hc1 : (w.drewN q).cell? ⟨b, off + k, none⟩ = some (.int .i64 (xs.getD k 0)) := HX.out k hlt
          have hc2 : (w.drewN q).cell? ⟨b2, off2 + k, none⟩ = some (.int .i64 (ys.getD k 0)) := HX2.out k hlt
          have hc3 : w.cell? ⟨b, off + k, none⟩ = some (.int .i64 (xs.getD k 0)) := HX.out k hlt
          have hc4 : w.cell? ⟨b2, off2 + k, none⟩ = some (.int .i64 (ys.getD k 0)) := HX2.out k hlt
          have hki : (0 : Int) ≤ (k : Int) ∧ (k : Int) < (xs.length : Int) := by omega
          obtain ⟨hki1, hki2⟩ := hki
          have HS : xs.getD k 0 = ys.getD k 0 → Hid (∀ j, j < k + 1 → xs.getD j 0 = ys.getD j 0) := by
            intro g j hj
            by_cases e : j = k
            · subst e; exact g
            · exact H.out j (by omega)
          have HS' := Lib.hid HS
          have NE : ¬ xs.getD k 0 = ys.getD k 0 → decide (xs = ys) = false := fun h => by simp; intro e; exact h (by rw [e])
          have NE' := Lib.hid NE
          clear HS NE
          generalize xs.getD k 0 = x at hc1 hc3 NE' HS'
          generalize ys.getD k 0 = y at hc2 hc4 NE' HS'
          by_cases hg : x = y
          · have hs := Lib.hid (HS'.out hg)
            subst hg
            go_wp2
            go_quiet (fail)
            go_wp2
            go_roundw
            case rel => exact ⟨k + 1, _, by omega, by go_num, hs.out, by first | rfl | exact World.drewN_drewN ..⟩
            case measure => simp [intOf]; omega
          · have hno := Lib.hid (NE'.out hg)
            have hg' : x < y ∨ y < x := by omega
            clear hg
            go_wp2
            go_quiet (fail)
            go_wp2
            go_ret
            exact ⟨Base.ret_bool (by rw [hno.out]), by first | exact bd _ _ | exact below_drewN (bd _ _) _⟩
        · obtain rfl : k = xs.length := by omega
          go_wp2
          go_ret
          exact ⟨Base.ret_bool (by rw [decide_eq_true (eq_of_get HL.out H.out)]), bd _ _⟩
  · have hd : decide (xs = ys) = false := by simp; intro e; exact hl (by rw [e])
    rw [hd]
    exact eqInt64S_lens v u xs ys w h g hl

theorem eqInt64S_yes (v u : Value) (xs : List Int) (w : World) (h : Rd w v xs) (g : Rd w u xs) :
    Calls Try.prog 11 #[v, u] w fun e w' => e = .returned (.bool true) ∧ Below w.heap.size w w' :=
  (eqInt64S_any v u xs xs w h g).mono fun e w' ⟨he, hb⟩ => ⟨by rw [he]; simp, hb⟩

theorem length_any (a : Option Addr) (n c : Nat) (w : World) (hn : n ≤ 9000000000000000000) : Calls Try.prog 43 #[.slice a n c] w fun e w' => e = .returned (.int .i64 (n : Int)) ∧ w = w' := by
  go_enter Try.func43, Try.ntmps43
  go_wp2
  go_ret
  exact ⟨rfl, rfl⟩

end Go.Proofs.Ytenaeehefamdmaa.Lists
