/-
  Contracts of LivingShares and LastMember of both packages.
  Conditions: the slices read as lists (Mem.Rd).
-/
import Derived.Test.YtochnbljjlloiaaIsClasses
namespace Go.Proofs.Ytochnbljjlloiaa.Living
open Go.RowKit Mem
open IsClasses (has clB Cls clB_of)
set_option linter.unusedVariables false

theorem rd_cell {w wr : World} {b off : Nat} {cap : Nat} {xs : List Int} (hbl : b < w.heap.size) (hb : Below w.heap.size w wr) (hx : ∀ i, i < xs.length → w.cell? ⟨b, off + i, none⟩ = some (.int .i64 (xs.getD i 0))) (i : Nat) (hi : i < xs.length) : wr.cell? ⟨b, off + i, none⟩ = some (.int .i64 (xs.getD i 0)) :=
  (hb.cell (p := ⟨b, off + i, none⟩) hbl).trans (hx i hi)

/-- The shares of the living among the first k members. -/
def lv (sh de : List Int) : Nat → Int
  | 0 => 0
  | k + 1 => lv sh de k + (if has de (k : Int) then 0 else sh.getD k 0)
theorem lv_bd (sh de : List Int) (h : within 1 1000 sh = true) (k : Nat) (hk : k ≤ sh.length) : 0 ≤ lv sh de k ∧ lv sh de k ≤ 1000 * k := by
  induction k with
  | zero => simp [lv]
  | succ k ih =>
    have a := ih (by omega)
    have g := within_get h k (by omega)
    show 0 ≤ lv sh de k + (if has de (k : Int) then 0 else sh.getD k 0) ∧ lv sh de k + (if has de (k : Int) then 0 else sh.getD k 0) ≤ _
    split <;> omega

theorem isDead_any (ch : Int) (v1 v2 : Value) (de : List Int) (i : Int) (w : World) (h2 : Rd w v2 de) :
    Calls Try.prog 77 #[.agg #[v1, v2, .int .i64 ch], .int .i64 i] w fun e w' => e = .returned (.bool (has de i)) ∧ Below w.heap.size w w' := by
  have H2 := Lib.hid (fun o => h2.below (b0 w o))
  clear h2
  go_enter Try.func77, Try.ntmps77
  go_wp2_with fail
  refine (IsClasses.contains_any _ de _ _ (H2.out _)).mono ?_; rintro e w1 ⟨rfl, q, rfl⟩
  go_wp2
  go_ret
  exact ⟨rfl, below_drewN (b0 _ _) _⟩

set_option maxHeartbeats 1000000 in
theorem specLiving_any (ch : Int) (v1 v2 : Value) (sh de : List Int) (w : World) (h1 : Rd w v1 sh) (h2 : Rd w v2 de) (hn : sh.length ≤ 60) (hw : within 1 1000 sh = true) :
    Calls Try.prog 78 #[.agg #[v1, v2, .int .i64 ch]] w fun e w' => e = .returned (.int .i64 (lv sh de sh.length)) ∧ Below w.heap.size w w' := by
  have H2 := Lib.hid h2
  have LB := Lib.hid (fun k hk => lv_bd sh de hw k hk)
  have WG := Lib.hid (fun i hi => within_get hw i hi)
  obtain ⟨a2, c2, rfl, hn2⟩ := rd_shape h2
  clear hw h2
  rcases h1 with ⟨rfl, rfl⟩ | ⟨b, off, cap, rfl, hnn, hl, hm, hbl, hx⟩
  · go_enter Try.func78, Try.ntmps78
    go_wp2
    refine wp_loop_rounds 1 ?_; rw [rounds_succ]
    go_wp2
    go_ret
    exact ⟨rfl, b0 _ _⟩
  · have HD := Lib.hid hx
    have HX := Lib.hid (box3_new w (.slice (some ⟨b, off, none⟩) sh.length cap) (.slice a2 de.length c2) (.int .i64 ch))
    clear hx
    go_enter Try.func78, Try.ntmps78
    go_wp2
    go_loopw [3, 4] (fun s i wr => ∃ k : Nat, k ≤ sh.length ∧ i = .int .i64 k ∧ s = .int .i64 (lv sh de k) ∧ Hid (Below w.heap.size w wr) ∧ Hid (Box3 wr w.heap.size (.slice (some ⟨b, off, none⟩) sh.length cap) (.slice a2 de.length c2) (.int .i64 ch))) (fun _ i _ => sh.length - (intOf i).toNat)
    case atStart => exact ⟨0, by omega, rfl, rfl, b0 _ _, HX.out _⟩
    case round =>
      obtain ⟨k, hk, rfl, rfl, HB, HX3⟩ := hrel
      obtain ⟨x1, x2, x3, x4⟩ := HX3.out
      by_cases hlt : k < sh.length
      · have HCK := Lib.hid (fun (w' : World) (h : Below w.heap.size w w') => rd_cell (cap := cap) hbl h HD.out k hlt)
        have hck := HCK.out _ HB.out
        have hg := WG.out k hlt
        have hlb := LB.out k (by omega)
        have E : Hid (lv sh de (k + 1) = lv sh de k + (if has de (k : Int) then 0 else sh.getD k 0)) := rfl
        generalize sh.getD k 0 = x at *
        cases hh : has de (k : Int) with
        | true =>
          have E2 : Hid (lv sh de (k + 1) = lv sh de k) := by show _ = _; rw [E.out, hh]; simp
          have HH := Lib.hid hh
          clear hh
          go_wp2_with fail
          refine (IsClasses.l01Has_any _ de _ _ (H2.out.below HB.out)).mono ?_; rintro e w1 ⟨rfl, q, rfl⟩; have hb1 := bd wr q; rw [HH.out]
          obtain ⟨y1, y2, y3, y4⟩ := HX3.out.below hb1
          have HB1 := Lib.hid (bl HB.out hb1)
          have HX1 := Lib.hid (HX3.out.below hb1)
          go_wp2
          go_roundw
          case rel => exact ⟨k + 1, by omega, by go_num, by rw [E2.out], HB1.out, HX1.out⟩
          case measure => simp [intOf]; omega
        | false =>
          have E2 : Hid (lv sh de (k + 1) = lv sh de k + x) := by show _ = _; rw [E.out, hh]; simp
          have HH := Lib.hid hh
          clear hh
          go_wp2_with fail
          refine (IsClasses.l01Has_any _ de _ _ (H2.out.below HB.out)).mono ?_; rintro e w1 ⟨rfl, q, rfl⟩; have hb1 := bd wr q; rw [HH.out]
          obtain ⟨y1, y2, y3, y4⟩ := HX3.out.below hb1
          have HB1 := Lib.hid (bl HB.out hb1)
          have HX1 := Lib.hid (HX3.out.below hb1)
          have hck1 := HCK.out _ HB1.out
          go_wp2
          go_roundw
          case rel => exact ⟨k + 1, by omega, by go_num, by rw [E2.out], HB1.out, HX1.out⟩
          case measure => simp [intOf]; omega
      · obtain rfl : k = sh.length := by omega
        go_wp2
        go_ret
        exact ⟨rfl, HB.out⟩

set_option maxHeartbeats 1000000 in
theorem implLiving_any (ch : Int) (v1 v2 : Value) (sh de : List Int) (w : World) (h1 : Rd w v1 sh) (h2 : Rd w v2 de) (hn : sh.length ≤ 60) (hw : within 1 1000 sh = true) :
    Calls Try.prog 79 #[.agg #[v1, v2, .int .i64 ch]] w fun e w' => e = .returned (.int .i64 (lv sh de sh.length)) ∧ Below w.heap.size w w' := by
  have H2 := Lib.hid h2
  have LB := Lib.hid (fun k hk => lv_bd sh de hw k hk)
  have WG := Lib.hid (fun i hi => within_get hw i hi)
  obtain ⟨a2, c2, rfl, hn2⟩ := rd_shape h2
  clear hw h2
  rcases h1 with ⟨rfl, rfl⟩ | ⟨b, off, cap, rfl, hnn, hl, hm, hbl, hx⟩
  · go_enter Try.func79, Try.ntmps79
    go_wp2
    refine wp_loop_rounds 1 ?_; rw [rounds_succ]
    go_wp2
    go_ret
    exact ⟨rfl, b0 _ _⟩
  · have HD := Lib.hid hx
    have HX := Lib.hid (box3_new w (.slice (some ⟨b, off, none⟩) sh.length cap) (.slice a2 de.length c2) (.int .i64 ch))
    clear hx
    go_enter Try.func79, Try.ntmps79
    go_wp2
    go_loopw [3, 9] (fun s i wr => ∃ k : Nat, k ≤ sh.length ∧ i = .int .i64 k ∧ s = .int .i64 (lv sh de k) ∧ Hid (Below w.heap.size w wr) ∧ Hid (Box3 wr w.heap.size (.slice (some ⟨b, off, none⟩) sh.length cap) (.slice a2 de.length c2) (.int .i64 ch))) (fun _ i _ => sh.length - (intOf i).toNat)
    case atStart => exact ⟨0, by omega, rfl, rfl, b0 _ _, HX.out _⟩
    case round =>
      obtain ⟨k, hk, rfl, rfl, HB, HX3⟩ := hrel
      obtain ⟨x1, x2, x3, x4⟩ := HX3.out
      by_cases hlt : k < sh.length
      · have HCK := Lib.hid (fun (w' : World) (h : Below w.heap.size w w') => rd_cell (cap := cap) hbl h HD.out k hlt)
        have hck := HCK.out _ HB.out
        have hg := WG.out k hlt
        have hlb := LB.out k (by omega)
        have E : Hid (lv sh de (k + 1) = lv sh de k + (if has de (k : Int) then 0 else sh.getD k 0)) := rfl
        generalize sh.getD k 0 = x at *
        cases hh : has de (k : Int) with
        | true =>
          have E2 : Hid (lv sh de (k + 1) = lv sh de k) := by show _ = _; rw [E.out, hh]; simp
          have HH := Lib.hid hh
          clear hh
          go_wp2_with fail
          refine (isDead_any ch _ _ de _ _ (H2.out.below HB.out)).mono ?_; rintro e w1 ⟨rfl, hb1⟩; rw [HH.out]
          obtain ⟨y1, y2, y3, y4⟩ := HX3.out.below hb1
          have HB1 := Lib.hid (bl HB.out hb1)
          have HX1 := Lib.hid (HX3.out.below hb1)
          go_wp2
          go_roundw
          case rel => exact ⟨k + 1, by omega, by go_num, by rw [E2.out], HB1.out, HX1.out⟩
          case measure => simp [intOf]; omega
        | false =>
          have E2 : Hid (lv sh de (k + 1) = lv sh de k + x) := by show _ = _; rw [E.out, hh]; simp
          have HH := Lib.hid hh
          clear hh
          go_wp2_with fail
          refine (isDead_any ch _ _ de _ _ (H2.out.below HB.out)).mono ?_; rintro e w1 ⟨rfl, hb1⟩; rw [HH.out]
          obtain ⟨y1, y2, y3, y4⟩ := HX3.out.below hb1
          have HB1 := Lib.hid (bl HB.out hb1)
          have HX1 := Lib.hid (HX3.out.below hb1)
          have hck1 := HCK.out _ HB1.out
          go_wp2
          go_roundw
          case rel => exact ⟨k + 1, by omega, by go_num, by rw [E2.out], HB1.out, HX1.out⟩
          case measure => simp [intOf]; omega
      · obtain rfl : k = sh.length := by omega
        go_wp2
        go_ret
        exact ⟨rfl, HB.out⟩

/-- What LivingShares returns. -/
noncomputable def lsV (sh de : List Int) (ch : Int) : Int := if clB sh de ch then lv sh de sh.length else 0
noncomputable def lsC (sh de : List Int) (ch : Int) : Int := if clB sh de ch then 0 else 1

theorem specLivingShares_any (ch : Int) (v1 v2 : Value) (sh de : List Int) (w : World) (h1 : Rd w v1 sh) (h2 : Rd w v2 de) :
    Calls Try.prog 52 #[.agg #[v1, v2, .int .i64 ch]] w fun e w' => e = .returned (.tuple #[.int .i64 (lsV sh de ch), .int .i64 (lsC sh de ch)]) ∧ Below w.heap.size w w' := by
  have H1 := Lib.hid (fun o => h1.below (b0 w o))
  have H2 := Lib.hid (fun o => h2.below (b0 w o))
  obtain ⟨a1, c1, rfl, hn1⟩ := rd_shape h1
  obtain ⟨a2, c2, rfl, hn2⟩ := rd_shape h2
  have HX := Lib.hid (box3_new w (.slice a1 sh.length c1) (.slice a2 de.length c2) (.int .i64 ch))
  clear h1 h2
  cases hk : clB sh de ch with
  | false =>
    have V : Hid (lsV sh de ch = 0) := by show _ = _; unfold lsV; rw [hk]; rfl
    have C : Hid (lsC sh de ch = 1) := by show _ = _; unfold lsC; rw [hk]; rfl
    have HK := Lib.hid hk
    clear hk
    go_enter Try.func52, Try.ntmps52
    go_wp2_with fail
    refine (IsClasses.specIsClass_any _ _ _ sh de _ (H1.out _) (H2.out _)).mono ?_; rintro e w1 ⟨rfl, hb1⟩; rw [HK.out]
    obtain ⟨x1, x2, x3, x4⟩ := (HX.out _).below hb1
    go_wp2
    go_ret2
    exact ⟨Base.ret_ii V.out.symm C.out.symm, bl (b0 _ _) hb1⟩
  | true =>
    have V : Hid (lsV sh de ch = lv sh de sh.length) := by show _ = _; unfold lsV; rw [hk]; rfl
    have C : Hid (lsC sh de ch = 0) := by show _ = _; unfold lsC; rw [hk]; rfl
    have HQ := Lib.hid (clB_of hk)
    have HK := Lib.hid hk
    clear hk
    go_enter Try.func52, Try.ntmps52
    go_wp2_with fail
    refine (IsClasses.specIsClass_any _ _ _ sh de _ (H1.out _) (H2.out _)).mono ?_; rintro e w1 ⟨rfl, hb1⟩; rw [HK.out]
    obtain ⟨x1, x2, x3, x4⟩ := (HX.out _).below hb1
    go_wp2_with fail
    refine (specLiving_any _ _ _ sh de _ ((H1.out _).below hb1) ((H2.out _).below hb1) HQ.out.1.2 HQ.out.2.1).mono ?_; rintro e w2 ⟨rfl, hb2⟩
    go_wp2
    go_ret2
    exact ⟨Base.ret_ii V.out.symm C.out.symm, bl (bl (b0 _ _) hb1) hb2⟩

theorem implLivingShares_any (ch : Int) (v1 v2 : Value) (sh de : List Int) (w : World) (h1 : Rd w v1 sh) (h2 : Rd w v2 de) :
    Calls Try.prog 53 #[.agg #[v1, v2, .int .i64 ch]] w fun e w' => e = .returned (.tuple #[.int .i64 (lsV sh de ch), .int .i64 (lsC sh de ch)]) ∧ Below w.heap.size w w' := by
  have H1 := Lib.hid (fun o => h1.below (b0 w o))
  have H2 := Lib.hid (fun o => h2.below (b0 w o))
  obtain ⟨a1, c1, rfl, hn1⟩ := rd_shape h1
  obtain ⟨a2, c2, rfl, hn2⟩ := rd_shape h2
  have HX := Lib.hid (box3_new w (.slice a1 sh.length c1) (.slice a2 de.length c2) (.int .i64 ch))
  clear h1 h2
  cases hk : clB sh de ch with
  | false =>
    have V : Hid (lsV sh de ch = 0) := by show _ = _; unfold lsV; rw [hk]; rfl
    have C : Hid (lsC sh de ch = 1) := by show _ = _; unfold lsC; rw [hk]; rfl
    have HK := Lib.hid hk
    clear hk
    go_enter Try.func53, Try.ntmps53
    go_wp2_with fail
    refine (IsClasses.implIsClass_any _ _ _ sh de _ (H1.out _) (H2.out _)).mono ?_; rintro e w1 ⟨rfl, hb1⟩; rw [HK.out]
    obtain ⟨x1, x2, x3, x4⟩ := (HX.out _).below hb1
    go_wp2
    go_ret2
    exact ⟨Base.ret_ii V.out.symm C.out.symm, bl (b0 _ _) hb1⟩
  | true =>
    have V : Hid (lsV sh de ch = lv sh de sh.length) := by show _ = _; unfold lsV; rw [hk]; rfl
    have C : Hid (lsC sh de ch = 0) := by show _ = _; unfold lsC; rw [hk]; rfl
    have HQ := Lib.hid (clB_of hk)
    have HK := Lib.hid hk
    clear hk
    go_enter Try.func53, Try.ntmps53
    go_wp2_with fail
    refine (IsClasses.implIsClass_any _ _ _ sh de _ (H1.out _) (H2.out _)).mono ?_; rintro e w1 ⟨rfl, hb1⟩; rw [HK.out]
    obtain ⟨x1, x2, x3, x4⟩ := (HX.out _).below hb1
    go_wp2_with fail
    refine (implLiving_any _ _ _ sh de _ ((H1.out _).below hb1) ((H2.out _).below hb1) HQ.out.1.2 HQ.out.2.1).mono ?_; rintro e w2 ⟨rfl, hb2⟩
    go_wp2
    go_ret2
    exact ⟨Base.ret_ii V.out.symm C.out.symm, bl (bl (b0 _ _) hb1) hb2⟩

/-! The last member: plain facts -/
/-- If 0, .., k - 1 are all on a strictly growing list of numbers of at least 0, they are its first k numbers. -/
theorem all_first {de : List Int} {n : Int} (h : IsClasses.incr de) (g : within 0 n de = true) (k : Nat) (ha : ∀ j, j < k → has de (j : Int) = true) : ∀ j, j < k → j < de.length ∧ de.getD j 0 = j := by
  induction k with
  | zero => intro j hj; omega
  | succ k ih =>
    have ih' := ih (fun j hj => ha j (by omega))
    intro j hj
    by_cases e : j = k
    · subst e
      obtain ⟨p, hp, hpv⟩ := IsClasses.has_get (ha j (by omega))
      have hge := IsClasses.incr_ge h g p hp
      have hpj : p ≤ j := by omega
      by_cases e2 : p = j
      · subst e2; exact ⟨hp, hpv⟩
      · have := (ih' p (by omega)).2
        omega
    · exact ih' j (by omega)
theorem not_all {de : List Int} {n : Nat} (h : IsClasses.incr de) (g : within 0 ((n : Int) - 1) de = true) (hl : de.length < n) : ¬ ∀ j : Nat, j < n → has de (j : Int) = true := fun ha => by
  have := (all_first h g n ha de.length hl).1
  omega

/-- The first member who is not dead, and what LastMember returns. -/
def firstLiving (de : List Int) (n : Nat) : Nat → Nat
  | 0 => n
  | f + 1 => if has de ((n - (f + 1) : Nat) : Int) then firstLiving de n f else n - (f + 1)
theorem fl_yes (de : List Int) (n k : Nat) (hk : k < n) (h : has de (k : Int) = true) : firstLiving de n (n - k) = firstLiving de n (n - (k + 1)) := by
  obtain ⟨f, hf⟩ : ∃ f, n - k = f + 1 := ⟨n - k - 1, by omega⟩
  rw [hf, show n - (k + 1) = f from by omega, firstLiving, show n - (f + 1) = k from by omega, h, if_pos rfl]
theorem fl_no (de : List Int) (n k : Nat) (hk : k < n) (h : has de (k : Int) = false) : firstLiving de n (n - k) = k := by
  obtain ⟨f, hf⟩ : ∃ f, n - k = f + 1 := ⟨n - k - 1, by omega⟩
  rw [hf, firstLiving, show n - (f + 1) = k from by omega, h]; rfl
noncomputable def lmV (sh de : List Int) (ch : Int) : Int := if clB sh de ch then (if de.length + 1 = sh.length then (firstLiving de sh.length sh.length : Int) else 0) else 0
noncomputable def lmC (sh de : List Int) (ch : Int) : Int := if clB sh de ch then (if de.length + 1 = sh.length then 0 else 4) else 1

set_option maxHeartbeats 1000000 in
theorem specLastMember_any (ch : Int) (v1 v2 : Value) (sh de : List Int) (w : World) (h1 : Rd w v1 sh) (h2 : Rd w v2 de) :
    Calls Try.prog 50 #[.agg #[v1, v2, .int .i64 ch]] w fun e w' => e = .returned (.tuple #[.int .i64 (lmV sh de ch), .int .i64 (lmC sh de ch)]) ∧ Below w.heap.size w w' := by
  have H1 := Lib.hid (fun o => h1.below (b0 w o))
  have H2o := Lib.hid (fun o => h2.below (b0 w o))
  have H2 := Lib.hid h2
  obtain ⟨a1, c1, rfl, hn1⟩ := rd_shape h1
  obtain ⟨a2, c2, rfl, hn2⟩ := rd_shape h2
  have HX := Lib.hid (box3_new w (.slice a1 sh.length c1) (.slice a2 de.length c2) (.int .i64 ch))
  clear h1 h2
  cases hk : clB sh de ch with
  | false =>
    have V : Hid (lmV sh de ch = 0) := by show _ = _; unfold lmV; rw [hk]; rfl
    have C : Hid (lmC sh de ch = 1) := by show _ = _; unfold lmC; rw [hk]; rfl
    have HK := Lib.hid hk
    clear hk
    go_enter Try.func50, Try.ntmps50
    go_wp2_with fail
    refine (IsClasses.specIsClass_any _ _ _ sh de _ (H1.out _) (H2o.out _)).mono ?_; rintro e w1 ⟨rfl, hb1⟩; rw [HK.out]
    obtain ⟨x1, x2, x3, x4⟩ := (HX.out _).below hb1
    go_wp2
    go_ret2
    exact ⟨Base.ret_ii V.out.symm C.out.symm, bl (b0 _ _) hb1⟩
  | true =>
    have HQ := Lib.hid (clB_of hk)
    have HK := Lib.hid hk
    by_cases hc : de.length + 1 = sh.length
    case neg =>
      have V : Hid (lmV sh de ch = 0) := by show _ = _; unfold lmV; rw [hk, if_pos rfl, if_neg hc]
      have C : Hid (lmC sh de ch = 4) := by show _ = _; unfold lmC; rw [hk, if_pos rfl, if_neg hc]
      have hc' : (de.length : Int) < (sh.length : Int) - 1 ∨ (sh.length : Int) - 1 < (de.length : Int) := by omega
      clear hk hc
      go_enter Try.func50, Try.ntmps50
      go_wp2_with fail
      refine (IsClasses.specIsClass_any _ _ _ sh de _ (H1.out _) (H2o.out _)).mono ?_; rintro e w1 ⟨rfl, hb1⟩; rw [HK.out]
      obtain ⟨x1, x2, x3, x4⟩ := (HX.out _).below hb1
      go_wp2
      go_ret2
      exact ⟨Base.ret_ii V.out.symm C.out.symm, bl (b0 _ _) hb1⟩
    have V : Hid (lmV sh de ch = (firstLiving de sh.length sh.length : Int)) := by show _ = _; unfold lmV; rw [hk, if_pos rfl, if_pos hc]
    have C : Hid (lmC sh de ch = 0) := by show _ = _; unfold lmC; rw [hk, if_pos rfl, if_pos hc]
    have NA := Lib.hid (not_all HQ.out.2.2.2.2 HQ.out.2.2.1 (by omega))
    have hn60 : sh.length ≤ 60 := HQ.out.1.2
    have hci : (de.length : Int) + 1 ≤ (sh.length : Int) ∧ (sh.length : Int) ≤ (de.length : Int) + 1 := by omega
    obtain ⟨hc1, hc2⟩ := hci
    clear hk hc
    go_enter Try.func50, Try.ntmps50
    go_wp2_with fail
    refine (IsClasses.specIsClass_any _ _ _ sh de _ (H1.out _) (H2o.out _)).mono ?_; rintro e w1 ⟨rfl, hb1⟩; rw [HK.out]
    have HX1 := Lib.hid ((HX.out _).below hb1)
    obtain ⟨x1, x2, x3, x4⟩ := HX1.out
    have HB1 := Lib.hid (bl (b0 _ _) hb1)
    clear hb1
    have hd1 : ((sh.length : Int) - (de.length : Int) != 1) = false := by simp; omega
    have hd2 : ((de.length : Int) != (sh.length : Int) - 1) = false := by simp; omega
    go_wp2
    go_loopw [4] (fun i wr => ∃ k : Nat, k < sh.length ∧ i = .int .i64 k ∧ Hid (∀ j : Nat, j < k → has de (j : Int) = true) ∧ Hid (firstLiving de sh.length (sh.length - k) = firstLiving de sh.length sh.length) ∧ Hid (Below w.heap.size w wr) ∧ Hid (Box3 wr w.heap.size (.slice a1 sh.length c1) (.slice a2 de.length c2) (.int .i64 ch))) (fun i _ => sh.length - (intOf i).toNat)
    case atStart => exact ⟨0, by omega, rfl, (fun j hj => by omega), rfl, HB1.out, HX1.out⟩
    case round =>
      obtain ⟨k, hk, rfl, HA, HF, HB, HX3⟩ := hrel
      obtain ⟨y1, y2, y3, y4⟩ := HX3.out
      cases hh : has de (k : Int) with
      | true =>
        have hk1 : k + 1 < sh.length := by
          by_cases e : k + 1 < sh.length
          · exact e
          · exact absurd (fun j hj => by
              by_cases e2 : j = k
              · subst e2; exact hh
              · exact HA.out j (by omega)) NA.out
        have HA2 : Hid (∀ j : Nat, j < k + 1 → has de (j : Int) = true) := fun j hj => by
          by_cases e2 : j = k
          · subst e2; exact hh
          · exact HA.out j (by omega)
        have HF2 : Hid (firstLiving de sh.length (sh.length - (k + 1)) = firstLiving de sh.length sh.length) := by show _ = _; rw [← fl_yes de sh.length k hk hh]; exact HF.out
        have HH := Lib.hid hh
        clear hh
        go_wp2_with fail
        refine (IsClasses.l01Has_any _ de _ _ (H2.out.below HB.out)).mono ?_; rintro e w2 ⟨rfl, q, rfl⟩; have hb2 := bd wr q; rw [HH.out]
        obtain ⟨z1, z2, z3, z4⟩ := HX3.out.below hb2
        have HB2 := Lib.hid (bl HB.out hb2)
        have HX2 := Lib.hid (HX3.out.below hb2)
        go_wp2
        go_roundw
        case rel => exact ⟨k + 1, hk1, by go_num, HA2.out, HF2.out, HB2.out, HX2.out⟩
        case measure => simp [intOf]; omega
      | false =>
        have HR := Lib.hid ((fl_no de sh.length k hk hh).symm.trans HF.out)
        have HH := Lib.hid hh
        clear hh
        go_wp2_with fail
        refine (IsClasses.l01Has_any _ de _ _ (H2.out.below HB.out)).mono ?_; rintro e w2 ⟨rfl, q, rfl⟩; have hb2 := bd wr q; rw [HH.out]
        obtain ⟨z1, z2, z3, z4⟩ := HX3.out.below hb2
        have HB2 := Lib.hid (bl HB.out hb2)
        go_wp2
        go_ret2
        exact ⟨Base.ret_ii (by rw [V.out, ← HR.out]) C.out.symm, HB2.out⟩

set_option maxHeartbeats 1000000 in
theorem implLastMember_any (ch : Int) (v1 v2 : Value) (sh de : List Int) (w : World) (h1 : Rd w v1 sh) (h2 : Rd w v2 de) :
    Calls Try.prog 51 #[.agg #[v1, v2, .int .i64 ch]] w fun e w' => e = .returned (.tuple #[.int .i64 (lmV sh de ch), .int .i64 (lmC sh de ch)]) ∧ Below w.heap.size w w' := by
  have H1 := Lib.hid (fun o => h1.below (b0 w o))
  have H2o := Lib.hid (fun o => h2.below (b0 w o))
  have H2 := Lib.hid h2
  obtain ⟨a1, c1, rfl, hn1⟩ := rd_shape h1
  obtain ⟨a2, c2, rfl, hn2⟩ := rd_shape h2
  have HX := Lib.hid (box3_new w (.slice a1 sh.length c1) (.slice a2 de.length c2) (.int .i64 ch))
  clear h1 h2
  cases hk : clB sh de ch with
  | false =>
    have V : Hid (lmV sh de ch = 0) := by show _ = _; unfold lmV; rw [hk]; rfl
    have C : Hid (lmC sh de ch = 1) := by show _ = _; unfold lmC; rw [hk]; rfl
    have HK := Lib.hid hk
    clear hk
    go_enter Try.func51, Try.ntmps51
    go_wp2_with fail
    refine (IsClasses.implIsClass_any _ _ _ sh de _ (H1.out _) (H2o.out _)).mono ?_; rintro e w1 ⟨rfl, hb1⟩; rw [HK.out]
    obtain ⟨x1, x2, x3, x4⟩ := (HX.out _).below hb1
    go_wp2
    go_ret2
    exact ⟨Base.ret_ii V.out.symm C.out.symm, bl (b0 _ _) hb1⟩
  | true =>
    have HQ := Lib.hid (clB_of hk)
    have HK := Lib.hid hk
    by_cases hc : de.length + 1 = sh.length
    case neg =>
      have V : Hid (lmV sh de ch = 0) := by show _ = _; unfold lmV; rw [hk, if_pos rfl, if_neg hc]
      have C : Hid (lmC sh de ch = 4) := by show _ = _; unfold lmC; rw [hk, if_pos rfl, if_neg hc]
      have hc' : (de.length : Int) < (sh.length : Int) - 1 ∨ (sh.length : Int) - 1 < (de.length : Int) := by omega
      clear hk hc
      go_enter Try.func51, Try.ntmps51
      go_wp2_with fail
      refine (IsClasses.implIsClass_any _ _ _ sh de _ (H1.out _) (H2o.out _)).mono ?_; rintro e w1 ⟨rfl, hb1⟩; rw [HK.out]
      obtain ⟨x1, x2, x3, x4⟩ := (HX.out _).below hb1
      go_wp2
      go_ret2
      exact ⟨Base.ret_ii V.out.symm C.out.symm, bl (b0 _ _) hb1⟩
    have V : Hid (lmV sh de ch = (firstLiving de sh.length sh.length : Int)) := by show _ = _; unfold lmV; rw [hk, if_pos rfl, if_pos hc]
    have C : Hid (lmC sh de ch = 0) := by show _ = _; unfold lmC; rw [hk, if_pos rfl, if_pos hc]
    have NA := Lib.hid (not_all HQ.out.2.2.2.2 HQ.out.2.2.1 (by omega))
    have hn60 : sh.length ≤ 60 := HQ.out.1.2
    have hci : (de.length : Int) + 1 ≤ (sh.length : Int) ∧ (sh.length : Int) ≤ (de.length : Int) + 1 := by omega
    obtain ⟨hc1, hc2⟩ := hci
    clear hk hc
    go_enter Try.func51, Try.ntmps51
    go_wp2_with fail
    refine (IsClasses.implIsClass_any _ _ _ sh de _ (H1.out _) (H2o.out _)).mono ?_; rintro e w1 ⟨rfl, hb1⟩; rw [HK.out]
    have HX1 := Lib.hid ((HX.out _).below hb1)
    obtain ⟨x1, x2, x3, x4⟩ := HX1.out
    have HB1 := Lib.hid (bl (b0 _ _) hb1)
    clear hb1
    have hd1 : ((sh.length : Int) - (de.length : Int) != 1) = false := by simp; omega
    have hd2 : ((de.length : Int) != (sh.length : Int) - 1) = false := by simp; omega
    go_wp2
    go_loopw [4] (fun i wr => ∃ k : Nat, k < sh.length ∧ i = .int .i64 k ∧ Hid (∀ j : Nat, j < k → has de (j : Int) = true) ∧ Hid (firstLiving de sh.length (sh.length - k) = firstLiving de sh.length sh.length) ∧ Hid (Below w.heap.size w wr) ∧ Hid (Box3 wr w.heap.size (.slice a1 sh.length c1) (.slice a2 de.length c2) (.int .i64 ch))) (fun i _ => sh.length - (intOf i).toNat)
    case atStart => exact ⟨0, by omega, rfl, (fun j hj => by omega), rfl, HB1.out, HX1.out⟩
    case round =>
      obtain ⟨k, hk, rfl, HA, HF, HB, HX3⟩ := hrel
      obtain ⟨y1, y2, y3, y4⟩ := HX3.out
      cases hh : has de (k : Int) with
      | true =>
        have hk1 : k + 1 < sh.length := by
          by_cases e : k + 1 < sh.length
          · exact e
          · exact absurd (fun j hj => by
              by_cases e2 : j = k
              · subst e2; exact hh
              · exact HA.out j (by omega)) NA.out
        have HA2 : Hid (∀ j : Nat, j < k + 1 → has de (j : Int) = true) := fun j hj => by
          by_cases e2 : j = k
          · subst e2; exact hh
          · exact HA.out j (by omega)
        have HF2 : Hid (firstLiving de sh.length (sh.length - (k + 1)) = firstLiving de sh.length sh.length) := by show _ = _; rw [← fl_yes de sh.length k hk hh]; exact HF.out
        have HH := Lib.hid hh
        clear hh
        go_wp2_with fail
        refine (isDead_any ch _ _ de _ _ (H2.out.below HB.out)).mono ?_; rintro e w2 ⟨rfl, hb2⟩; rw [HH.out]
        obtain ⟨z1, z2, z3, z4⟩ := HX3.out.below hb2
        have HB2 := Lib.hid (bl HB.out hb2)
        have HX2 := Lib.hid (HX3.out.below hb2)
        go_wp2
        go_roundw
        case rel => exact ⟨k + 1, hk1, by go_num, HA2.out, HF2.out, HB2.out, HX2.out⟩
        case measure => simp [intOf]; omega
      | false =>
        have HR := Lib.hid ((fl_no de sh.length k hk hh).symm.trans HF.out)
        have HH := Lib.hid hh
        clear hh
        go_wp2_with fail
        refine (isDead_any ch _ _ de _ _ (H2.out.below HB.out)).mono ?_; rintro e w2 ⟨rfl, hb2⟩; rw [HH.out]
        obtain ⟨z1, z2, z3, z4⟩ := HX3.out.below hb2
        have HB2 := Lib.hid (bl HB.out hb2)
        go_wp2
        go_ret2
        exact ⟨Base.ret_ii (by rw [V.out, ← HR.out]) C.out.symm, HB2.out⟩

end Go.Proofs.Ytochnbljjlloiaa.Living
