/-
  Contracts of LivingShares and LastMember of both packages.
  Conditions: the slices read as lists (Mem.Rd).
-/
import Derived.Test.YtenaeehefamdmaaIsClasses
namespace Go.Proofs.Ytenaeehefamdmaa.Living
open Go.RowKit Mem
open IsClasses (has clB Cls clB_of)
set_option linter.unusedVariables false

theorem rd_cell {w wr : World} {b off : Nat} {cap : Nat} {xs : List Int} (hbl : b < w.heap.size) (hb : Below w.heap.size w wr) (hx : ∀ i, i < xs.length → w.cell? ⟨b, off + i, none⟩ = some (.int .i64 (xs.getD i 0))) (i : Nat) (hi : i < xs.length) : wr.cell? ⟨b, off + i, none⟩ = some (.int .i64 (xs.getD i 0)) :=
  (hb.cell (p := ⟨b, off + i, none⟩) hbl).trans (hx i hi)

/-- The shares of the living among the first k members. -/
def lv (sh de : List Int) : Nat → Int
  | 0 => 0
  | k + 1 => lv sh de k + (if has de (k : Int) then 0 else sh.getD k 0)
theorem lv_bd (sh de : List Int) (h : within 1 1000 sh = true) (k : Nat) (hk : k ≤ sh.length) : 0 ≤ lv sh de k ∧ lv sh de k ≤ 1000 * k := by
  induction k with
  | zero => simp [lv]
  | succ k ih =>
    have a := ih (by omega)
    have g := within_get h k (by omega)
    show 0 ≤ lv sh de k + (if has de (k : Int) then 0 else sh.getD k 0) ∧ lv sh de k + (if has de (k : Int) then 0 else sh.getD k 0) ≤ _
    split <;> omega

theorem isDead_any (ch : Int) (v1 v2 : Value) (de : List Int) (i : Int) (w : World) (h2 : Rd w v2 de) :
    Calls Try.prog 46 #[.agg #[v1, v2, .int .i64 ch], .int .i64 i] w fun e w' => e = .returned (.bool (has de i)) ∧ Below w.heap.size w w' := by
  have H2 := Lib.hid (fun o => h2.below (b0 w o))
  clear h2
  go_enter Try.func46, Try.ntmps46
  go_wp2_with fail
  refine (IsClasses.contains_any _ de _ _ (H2.out _)).mono ?_; rintro e w1 ⟨rfl, q, rfl⟩
  go_wp2
  go_ret
  exact ⟨rfl, below_drewN (b0 _ _) _⟩

set_option maxHeartbeats 1000000 in
theorem specLiving_any (ch : Int) (v1 v2 : Value) (sh de : List Int) (w : World) (h1 : Rd w v1 sh) (h2 : Rd w v2 de) (hn : sh.length ≤ 60) (hw : within 1 1000 sh = true) :
    Calls Try.prog 41 #[.agg #[v1, v2, .int .i64 ch]] w fun e w' => e = .returned (.int .i64 (lv sh de sh.length)) ∧ Below w.heap.size w w' := by
  have H2 := Lib.hid h2
  have LB := Lib.hid (fun k hk => lv_bd sh de hw k hk)
  have WG := Lib.hid (fun i hi => within_get hw i hi)
  obtain ⟨a2, c2, rfl, hn2⟩ := rd_shape h2
  clear hw h2
  rcases h1 with ⟨rfl, rfl⟩ | ⟨b, off, cap, rfl, hnn, hl, hm, hbl, hx⟩
  · go_enter Try.func41, Try.ntmps41
    go_wp2
    refine wp_loop_rounds 1 ?_; rw [rounds_succ]
    go_wp2
    go_ret
    exact ⟨rfl, b0 _ _⟩
  · have HD := Lib.hid hx
    have HX := Lib.hid (box3_new w (.slice (some ⟨b, off, none⟩) sh.length cap) (.slice a2 de.length c2) (.int .i64 ch))
    clear hx
    go_enter Try.func41, Try.ntmps41
    go_wp2
    go_loopw [3, 4] (fun s i wr => ∃ k : Nat, k ≤ sh.length ∧ i = .int .i64 k ∧ s = .int .i64 (lv sh de k) ∧ Hid (Below w.heap.size w wr) ∧ Hid (Box3 wr w.heap.size (.slice (some ⟨b, off, none⟩) sh.length cap) (.slice a2 de.length c2) (.int .i64 ch))) (fun _ i _ => sh.length - (intOf i).toNat)
    case atStart => exact ⟨0, by omega, rfl, rfl, b0 _ _, HX.out _⟩
    case round =>
      obtain ⟨k, hk, rfl, rfl, HB, HX3⟩ := hrel
      obtain ⟨x1, x2, x3, x4⟩ := HX3.out
      by_cases hlt : k < sh.length
      · have HCK := Lib.hid (fun (w' : World) (h : Below w.heap.size w w') => rd_cell (cap := cap) hbl h HD.out k hlt)
        have hck := HCK.out _ HB.out
        have hg := WG.out k hlt
        have hlb := LB.out k (by omega)
        have E : Hid (lv sh de (k + 1) = lv sh de k + (if has de (k : Int) then 0 else sh.getD k 0)) := rfl
        generalize sh.getD k 0 = x at *
        cases hh : has de (k : Int) with
        | true =>
          have E2 : Hid (lv sh de (k + 1) = lv sh de k) := by show _ = _; rw [E.out, hh]; simp
          have HH := Lib.hid hh
          clear hh
          go_wp2_with fail
          refine (IsClasses.l01Has_any _ de _ _ (H2.out.below HB.out)).mono ?_; rintro e w1 ⟨rfl, q, rfl⟩; have hb1 := bd wr q; rw [HH.out]
          obtain ⟨y1, y2, y3, y4⟩ := HX3.out.below hb1
          have HB1 := Lib.hid (bl HB.out hb1)
          have HX1 := Lib.hid (HX3.out.below hb1)
          go_wp2
          go_roundw
          case rel => exact ⟨k + 1, by omega, by go_num, by rw [E2.out], HB1.out, HX1.out⟩
          case measure => simp [intOf]; omega
        | false =>
          have E2 : Hid (lv sh de (k + 1) = lv sh de k + x) := by show _ = _; rw [E.out, hh]; simp
          have HH := Lib.hid hh
          clear hh
          go_wp2_with fail
          refine (IsClasses.l01Has_any _ de _ _ (H2.out.below HB.out)).mono ?_; rintro e w1 ⟨rfl, q, rfl⟩; have hb1 := bd wr q; rw [HH.out]
          obtain ⟨y1, y2, y3, y4⟩ := HX3.out.below hb1
          have HB1 := Lib.hid (bl HB.out hb1)
          have HX1 := Lib.hid (HX3.out.below hb1)
          have hck1 := HCK.out _ HB1.out
          go_wp2
          go_roundw
          case rel => exact ⟨k + 1, by omega, by go_num, by rw [E2.out], HB1.out, HX1.out⟩
          case measure => simp [intOf]; omega
      · obtain rfl : k = sh.length := by omega
        go_wp2
        go_ret
        exact ⟨rfl, HB.out⟩

set_option maxHeartbeats 1000000 in
theorem implLiving_any (ch : Int) (v1 v2 : Value) (sh de : List Int) (w : World) (h1 : Rd w v1 sh) (h2 : Rd w v2 de) (hn : sh.length ≤ 60) (hw : within 1 1000 sh = true) :
    Calls Try.prog 45 #[.agg #[v1, v2, .int .i64 ch]] w fun e w' => e = .returned (.int .i64 (lv sh de sh.length)) ∧ Below w.heap.size w w' := by
  have H2 := Lib.hid h2
  have LB := Lib.hid (fun k hk => lv_bd sh de hw k hk)
  have WG := Lib.hid (fun i hi => within_get hw i hi)
  obtain ⟨a2, c2, rfl, hn2⟩ := rd_shape h2
  clear hw h2
  rcases h1 with ⟨rfl, rfl⟩ | ⟨b, off, cap, rfl, hnn, hl, hm, hbl, hx⟩
  · go_enter Try.func45, Try.ntmps45
    go_wp2
    refine wp_loop_rounds 1 ?_; rw [rounds_succ]
    go_wp2
    go_ret
    exact ⟨rfl, b0 _ _⟩
  · have HD := Lib.hid hx
    have HX := Lib.hid (box3_new w (.slice (some ⟨b, off, none⟩) sh.length cap) (.slice a2 de.length c2) (.int .i64 ch))
    clear hx
    go_enter Try.func45, Try.ntmps45
    go_wp2
    go_loopw [3, 9] (fun s i wr => ∃ k : Nat, k ≤ sh.length ∧ i = .int .i64 k ∧ s = .int .i64 (lv sh de k) ∧ Hid (Below w.heap.size w wr) ∧ Hid (Box3 wr w.heap.size (.slice (some ⟨b, off, none⟩) sh.length cap) (.slice a2 de.length c2) (.int .i64 ch))) (fun _ i _ => sh.length - (intOf i).toNat)
    case atStart => exact ⟨0, by omega, rfl, rfl, b0 _ _, HX.out _⟩
    case round =>
      obtain ⟨k, hk, rfl, rfl, HB, HX3⟩ := hrel
      obtain ⟨x1, x2, x3, x4⟩ := HX3.out
      by_cases hlt : k < sh.length
      · have HCK := Lib.hid (fun (w' : World) (h : Below w.heap.size w w') => rd_cell (cap := cap) hbl h HD.out k hlt)
        have hck := HCK.out _ HB.out
        have hg := WG.out k hlt
        have hlb := LB.out k (by omega)
        have E : Hid (lv sh de (k + 1) = lv sh de k + (if has de (k : Int) then 0 else sh.getD k 0)) := rfl
        generalize sh.getD k 0 = x at *
        cases hh : has de (k : Int) with
        | true =>
          have E2 : Hid (lv sh de (k + 1) = lv sh de k) := by show _ = _; rw [E.out, hh]; simp
          have HH := Lib.hid hh
          clear hh
          go_wp2_with fail
          refine (isDead_any ch _ _ de _ _ (H2.out.below HB.out)).mono ?_; rintro e w1 ⟨rfl, hb1⟩; rw [HH.out]
          obtain ⟨y1, y2, y3, y4⟩ := HX3.out.below hb1
          have HB1 := Lib.hid (bl HB.out hb1)
          have HX1 := Lib.hid (HX3.out.below hb1)
          go_wp2
          go_roundw
          case rel => exact ⟨k + 1, by omega, by go_num, by rw [E2.out], HB1.out, HX1.out⟩
          case measure => simp [intOf]; omega
        | false =>
          have E2 : Hid (lv sh de (k + 1) = lv sh de k + x) := by show _ = _; rw [E.out, hh]; simp
          have HH := Lib.hid hh
          clear hh
          go_wp2_with fail
          refine (isDead_any ch _ _ de _ _ (H2.out.below HB.out)).mono ?_; rintro e w1 ⟨rfl, hb1⟩; rw [HH.out]
          obtain ⟨y1, y2, y3, y4⟩ := HX3.out.below hb1
          have HB1 := Lib.hid (bl HB.out hb1)
          have HX1 := Lib.hid (HX3.out.below hb1)
          have hck1 := HCK.out _ HB1.out
          go_wp2
          go_roundw
          case rel => exact ⟨k + 1, by omega, by go_num, by rw [E2.out], HB1.out, HX1.out⟩
          case measure => simp [intOf]; omega
      · obtain rfl : k = sh.length := by omega
        go_wp2
        go_ret
        exact ⟨rfl, HB.out⟩

/-- What LivingShares returns. -/
noncomputable def lsV (sh de : List Int) (ch : Int) : Int := if clB sh de ch then lv sh de sh.length else 0
noncomputable def lsC (sh de : List Int) (ch : Int) : Int := if clB sh de ch then 0 else 1

/-! The last member: plain facts -/
/-- If 0, .., k - 1 are all on a strictly growing list of numbers of at least 0, they are its first k numbers. -/
theorem all_first {de : List Int} {n : Int} (h : IsClasses.incr de) (g : within 0 n de = true) (k : Nat) (ha : ∀ j, j < k → has de (j : Int) = true) : ∀ j, j < k → j < de.length ∧ de.getD j 0 = j := by
  induction k with
  | zero => intro j hj; omega
  | succ k ih =>
    have ih' := ih (fun j hj => ha j (by omega))
    intro j hj
    by_cases e : j = k
    · subst e
      obtain ⟨p, hp, hpv⟩ := IsClasses.has_get (ha j (by omega))
      have hge := IsClasses.incr_ge h g p hp
      have hpj : p ≤ j := by omega
      by_cases e2 : p = j
      · subst e2; exact ⟨hp, hpv⟩
      · have := (ih' p (by omega)).2
        omega
    · exact ih' j (by omega)
theorem not_all {de : List Int} {n : Nat} (h : IsClasses.incr de) (g : within 0 ((n : Int) - 1) de = true) (hl : de.length < n) : ¬ ∀ j : Nat, j < n → has de (j : Int) = true := fun ha => by
  have := (all_first h g n ha de.length hl).1
  omega

/-- The first member who is not dead, and what LastMember returns. -/
def firstLiving (de : List Int) (n : Nat) : Nat → Nat
  | 0 => n
  | f + 1 => if has de ((n - (f + 1) : Nat) : Int) then firstLiving de n f else n - (f + 1)
theorem fl_yes (de : List Int) (n k : Nat) (hk : k < n) (h : has de (k : Int) = true) : firstLiving de n (n - k) = firstLiving de n (n - (k + 1)) := by
  obtain ⟨f, hf⟩ : ∃ f, n - k = f + 1 := ⟨n - k - 1, by omega⟩
  rw [hf, show n - (k + 1) = f from by omega, firstLiving, show n - (f + 1) = k from by omega, h, if_pos rfl]
theorem fl_no (de : List Int) (n k : Nat) (hk : k < n) (h : has de (k : Int) = false) : firstLiving de n (n - k) = k := by
  obtain ⟨f, hf⟩ : ∃ f, n - k = f + 1 := ⟨n - k - 1, by omega⟩
  rw [hf, firstLiving, show n - (f + 1) = k from by omega, h]; rfl
noncomputable def lmV (sh de : List Int) (ch : Int) : Int := if clB sh de ch then (if de.length + 1 = sh.length then (firstLiving de sh.length sh.length : Int) else 0) else 0
noncomputable def lmC (sh de : List Int) (ch : Int) : Int := if clB sh de ch then (if de.length + 1 = sh.length then 0 else 4) else 1

end Go.Proofs.Ytenaeehefamdmaa.Living
