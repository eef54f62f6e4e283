/-
  Contracts of PolicyText of both packages.
  Conditions: the library's table and MaxLen read (Tab, DoorM).
-/
import Derived.Test.YtfnmomdjmhbffaaDoorJoins
import Derived.Test.YtfnmomdjmhbffaaDoorDoors
namespace Go.Proofs.YtfnmomdjmhbffaaDoor.Policies
open Go.RowKit Mem Texts TextPlain Joins ReadPlain Doors
set_option linter.unusedVariables false

/-- Numbers in decimal, separated by commas. -/
def joinP (xs : List Int) : List UInt8 := Lib.join (xs.map Lib.itoa) [44]
theorem joinP_snoc (xs : List Int) (x : Int) (h : xs ≠ []) : joinP (xs ++ [x]) = joinP xs ++ [44] ++ Lib.itoa x := by
  cases xs with
  | nil => exact absurd rfl h
  | cons a l =>
    unfold joinP
    simp only [List.cons_append, List.map_cons, List.map_append, List.map_nil]
    rw [Lib.join_cons, Lib.join_cons]
    simp [Lib.joinTail]
theorem joinP_one (x : Int) : joinP [x] = Lib.itoa x := by unfold joinP; exact Lib.join_one _ _
theorem joinP_take (xs : List Int) (k : Nat) (h : k < xs.length) : joinP (xs.take (k + 1)) = (if k = 0 then [] else joinP (xs.take k) ++ [44]) ++ Lib.itoa (xs.getD k 0) := by
  rw [take_snoc xs k h]
  by_cases e : k = 0
  · subst e; rw [if_pos rfl]; simp [joinP_one]
  · rw [if_neg e, joinP_snoc _ _ (by intro hn; have := congrArg List.length hn; rw [List.length_take, List.length_nil] at this; omega)]


theorem joinP_eq (xs : List Int) (h : xs ≠ []) : Lib.replaceAll (joinT xs) [32] [44] = joinP xs := by
  rw [replaceAll_eq 32 44 (by decide)]
  unfold joinT
  rw [split_join 32 _ (by simpa using h) (fun x hx => by
    obtain ⟨n, _, rfl⟩ := List.mem_map.1 hx
    exact itoa_no 32 (.inl rfl) n)]
  rfl

set_option maxRecDepth 100000 in
set_option maxHeartbeats 1000000 in
theorem l01Join_comma (v : Value) (xs : List Int) (w : World) (h : Rd w v xs) (hn : xs.length ≤ 1000) (hw : within (-1000000000000000000) 1000000000000000000 xs = true) :
    Calls Tryd.prog 16 #[v, .string ⟨#[44]⟩] w fun e w' => e = .returned (.string (S (joinP xs))) ∧ Below w.heap.size w w' := by
  have WG := Lib.hid (fun i hi => within_get hw i hi)
  clear hw
  rcases h with ⟨rfl, rfl⟩ | ⟨b, off, cap, rfl, hn', hl, hc, hbl, hx⟩
  · go_enter Tryd.func16, Tryd.ntmps16
    go_wp2
    refine wp_loop_rounds 1 ?_; rw [rounds_succ]
    go_wp2
    go_ret
    exact ⟨rfl, Below.refl _ _⟩
  · have HX := Lib.hid hx
    clear hx
    go_enter Tryd.func16, Tryd.ntmps16
    go_wp2
    go_loopw [5, 6] (fun s i wr => ∃ (k : Nat) (t : List UInt8), k ≤ xs.length ∧ i = .int .i64 k ∧ s = .string (S t) ∧ Hid (t = joinP (xs.take k)) ∧ t.length ≤ 30 * k ∧ Hid (Below w.heap.size w wr)) (fun _ i _ => xs.length - (intOf i).toNat)
    case atStart => exact ⟨0, [], by omega, rfl, rfl, rfl, by simp, Below.refl _ _⟩
    case round =>
      obtain ⟨k, t, hk, rfl, rfl, HJ, ht, HB⟩ := hrel
      by_cases hlt : k < xs.length
      · have hck : wr.cell? ⟨b, off + k, none⟩ = some (.int .i64 (xs.getD k 0)) := (HB.out.cell (p := ⟨b, off + k, none⟩) hbl).trans (HX.out k hlt)
        have hg := WG.out k hlt
        have JT := Lib.hid (joinP_take xs k hlt)
        generalize xs.getD k 0 = x at *
        obtain ⟨g1, g2⟩ := hg
        have C := Lib.hid (fun w => number_any x w g1 g2)
        have hl2 := itoa_len x g1 g2
        generalize Lib.itoa x = tx at *
        have hki : (k : Int) < (xs.length : Int) := by omega
        by_cases h0 : k = 0
        · subst h0
          rw [Nat.add_zero] at hck
          obtain ⟨z1, Z1, k1, A1⟩ := cat 30 (S t) (S tx) t tx rfl rfl (by omega) (by omega)
          go_wp2_with fail
          refine (C.out _).mono ?_; rintro e w1 ⟨rfl, hb⟩
          have HB1 := Lib.hid (bl HB.out hb)
          have ht0 : Hid (t = []) := by show _ = _; exact HJ.out
          clear hb
          go_wp2
          go_roundw
          case rel => exact ⟨1, z1, by omega, rfl, rfl, by show _ = _; rw [Z1.out, ht0.out, JT.out]; rfl, by omega, HB1.out⟩
          case measure => simp [intOf]; omega
        · have hk0 : 0 < (k : Int) := by omega
          obtain ⟨z1, Z1, k1, A1⟩ := cat (30 * k + 1) (S t) ⟨#[44]⟩ t [44] rfl rfl (by simp; omega) (by omega)
          obtain ⟨z2, Z2, k2, A2⟩ := cat (30 * k + 30) (S z1) (S tx) z1 tx rfl rfl (by omega) (by omega)
          go_wp2_with fail
          refine (C.out _).mono ?_; rintro e w1 ⟨rfl, hb⟩
          have HB1 := Lib.hid (bl HB.out hb)
          clear hb
          go_wp2
          go_roundw
          case rel => exact ⟨k + 1, z2, by omega, by go_num, rfl, by show _ = _; rw [Z2.out, Z1.out, JT.out, if_neg h0, HJ.out], by omega, HB1.out⟩
          case measure => simp [intOf]; omega
      · obtain rfl : k = xs.length := by omega
        go_wp2
        go_ret
        exact ⟨Base.ret_string (by rw [HJ.out, List.take_length]), HB.out⟩


/-- The text of a policy's five numbers. -/
def polT (xs : List Int) : List UInt8 := if within (-1000000000000) 1000000000000 xs then joinP xs else []

theorem rd_new (w : World) (xs : List Int) (b n : Nat) (T : TypeId) (hb : b = w.heap.size) (hl : n = xs.length) (hn : n ≤ 1000) : Rd (w.alloc (.cells (xs.map (Value.int .i64)).toArray T)) (.slice (some ⟨b, 0, none⟩) n n) xs := by
  subst hb hl
  refine .inr ⟨w.heap.size, 0, xs.length, rfl, by omega, by omega, by omega, by simp, fun i hi => ?_⟩
  rw [Nat.zero_add]
  refine cell_of_block (heap_alloc_new w _) ?_
  rw [List.getElem?_toArray, List.getElem?_map]
  simp [List.getD, hi]

set_option maxRecDepth 100000 in
set_option maxHeartbeats 1000000 in
theorem specPolicyText_any (a b c d e : Int) (w : World) :
    Calls Tryd.prog 9 #[.agg #[.int .i64 a, .int .i64 b, .int .i64 c, .int .i64 d, .int .i64 e]] w fun r w' => r = .returned (.string (S (polT [a, b, c, d, e]))) ∧ Below w.heap.size w w' := by
  have RN := Lib.hid (fun o => rd_new (w.alloc o) [a, b, c, d, e] (w.heap.size + 1) 5 2 (by simp) rfl (by omega))
  cases hw : within (-1000000000000) 1000000000000 [a, b, c, d, e] with
  | true =>
    have V : Hid (polT [a, b, c, d, e] = joinP [a, b, c, d, e]) := by show _ = _; unfold polT; rw [hw]; rfl
    have HW := Lib.hid hw
    clear hw
    go_enter Tryd.func9, Tryd.ntmps9
    go_wp2_with fail
    refine (Lists.l01Within_yes _ [a, b, c, d, e] _ _ _ _ (RN.out _) HW.out (by simp)).mono ?_; rintro r w1 ⟨rfl, hb1⟩
    have HB := Lib.hid (bl (bl (b0 w _) (b0 _ _)) hb1)
    have HR := Lib.hid ((RN.out _).below hb1)
    clear hb1
    go_wp2_with fail
    refine (l01Join_comma _ [a, b, c, d, e] _ HR.out (by simp) (within_mono HW.out (by omega) (by omega))).mono ?_; rintro r w2 ⟨rfl, hb2⟩
    go_wp2
    go_ret
    exact ⟨Base.ret_string (by rw [V.out]), bl HB.out hb2⟩
  | false =>
    have V : Hid (polT [a, b, c, d, e] = []) := by show _ = _; unfold polT; rw [hw]; rfl
    have HW := Lib.hid hw
    clear hw
    go_enter Tryd.func9, Tryd.ntmps9
    go_wp2_with fail
    refine (Lists.l01Within_no _ [a, b, c, d, e] _ _ _ _ (RN.out _) (.inl HW.out)).mono ?_; rintro r w1 ⟨rfl, hb1⟩
    have HB := Lib.hid (bl (bl (b0 w _) (b0 _ _)) hb1)
    clear hb1
    go_wp2
    go_ret
    exact ⟨Base.ret_string (by rw [V.out]; rfl), HB.out⟩

theorem joinT5_len (xs : List Int) (h : xs.length = 5) (hw : within (-1000000000000) 1000000000000 xs = true) : (joinT xs).length ≤ 150 := by
  have := joinT_len xs (within_mono hw (by omega) (by omega)) xs.length (Nat.le_refl _)
  rw [List.take_length] at this; omega

set_option maxRecDepth 100000 in
set_option maxHeartbeats 1000000 in
theorem implPolicyText_any (a b c d e : Int) (B : Nat) (w : World) (hT : Tab B w) (hM : DoorM w) :
    Calls Tryd.prog 13 #[.agg #[.int .i64 a, .int .i64 b, .int .i64 c, .int .i64 d, .int .i64 e]] w fun r w' => r = .returned (.string (S (polT [a, b, c, d, e]))) ∧ Below w.heap.size w w' := by
  have RN := Lib.hid (fun o => rd_new (w.alloc o) [a, b, c, d, e] (w.heap.size + 1) 5 2 (by simp) rfl (by omega))
  have HT := Lib.hid hT
  have HM := Lib.hid hM
  clear hT hM
  cases hw : within (-1000000000000) 1000000000000 [a, b, c, d, e] with
  | true =>
    have V : Hid (polT [a, b, c, d, e] = Lib.replaceAll (joinT [a, b, c, d, e]) [32] [44]) := by show _ = _; unfold polT; rw [hw, joinP_eq _ (by simp)]; rfl
    have hl := joinT5_len [a, b, c, d, e] rfl hw
    have HW := Lib.hid hw
    clear hw
    have RA : Hid (∀ w, DoorM w → Calls Tryd.prog 22 #[.string (S (joinT [a, b, c, d, e])), .string ⟨#[32]⟩, .string ⟨#[44]⟩] w fun r w' => r = .returned (.string (S (polT [a, b, c, d, e]))) ∧ Below w.heap.size w w') := by
      intro w ⟨m, hm⟩
      have hcb : Lib.countB (S (joinT [a, b, c, d, e])) ⟨#[32]⟩ ≤ (S (joinT [a, b, c, d, e])).size := Lib.countB_le _ (by decide) _ _ (Nat.le_refl _)
      rw [S_size] at hcb
      have := Tryd.strings_ReplaceAll (S (joinT [a, b, c, d, e])) ⟨#[32]⟩ ⟨#[44]⟩ m w (by rw [S_size]; omega) hm (by decide) (by show (S _).size + _ * 1 ≤ _; rw [S_size]; omega)
      rw [S_list] at this
      rw [V.out]
      exact this
    have JN := Lib.hid (fun v w hT h => joined_any v [a, b, c, d, e] B w hT h (by simp) (within_mono HW.out (by omega) (by omega)))
    clear hl
    go_enter Tryd.func13, Tryd.ntmps13
    go_wp2_with fail
    refine (Lists.allIn_any _ [a, b, c, d, e] _ _ _ (RN.out _)).mono ?_; rintro r w1 ⟨rfl, hb1⟩
    rw [HW.out]
    have HB := Lib.hid (bl (bl (b0 w _) (b0 _ _)) hb1)
    have HR := Lib.hid ((RN.out _).below hb1)
    clear hb1
    go_wp2_with fail
    refine (JN.out _ _ (HT.out.below HB.out) HR.out).mono ?_; rintro r w2 ⟨rfl, hb2⟩
    have HB2 := Lib.hid (bl HB.out hb2)
    clear hb2
    go_wp2_with fail
    refine (RA.out _ (HM.out.below HB2.out)).mono ?_; rintro r w3 ⟨rfl, hb3⟩
    go_wp2
    go_ret
    exact ⟨rfl, bl HB2.out hb3⟩
  | false =>
    have V : Hid (polT [a, b, c, d, e] = []) := by show _ = _; unfold polT; rw [hw]; rfl
    have HW := Lib.hid hw
    clear hw
    go_enter Tryd.func13, Tryd.ntmps13
    go_wp2_with fail
    refine (Lists.allIn_any _ [a, b, c, d, e] _ _ _ (RN.out _)).mono ?_; rintro r w1 ⟨rfl, hb1⟩
    rw [HW.out]
    have HB := Lib.hid (bl (bl (b0 w _) (b0 _ _)) hb1)
    clear hb1
    go_wp2
    go_ret
    exact ⟨Base.ret_string (by rw [V.out]; rfl), HB.out⟩
end Go.Proofs.YtfnmomdjmhbffaaDoor.Policies
