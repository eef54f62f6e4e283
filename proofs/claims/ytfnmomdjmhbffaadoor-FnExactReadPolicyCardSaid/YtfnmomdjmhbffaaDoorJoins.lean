/-
  Contracts of the texts of lists of numbers: the reference's l01Number, l01Join, the program's joined.
  Conditions: the list reads (Mem.Rd), it has at most 1000 numbers, each between -10^18 and 10^18; the library's table reads (Tab).
-/
import Derived.Test.YtfnmomdjmhbffaaDoorTexts2
import Derived.Test.YtfnmomdjmhbffaaDoorLists
import Derived.Lib.Join
namespace Go.Proofs.YtfnmomdjmhbffaaDoor.Joins
open Go.RowKit Mem Texts TextPlain
set_option linter.unusedVariables false

/-- Numbers in decimal, separated by blanks. -/
def joinT (xs : List Int) : List UInt8 := Lib.join (xs.map Lib.itoa) [32]
theorem joinT_snoc (xs : List Int) (x : Int) (h : xs ≠ []) : joinT (xs ++ [x]) = joinT xs ++ [32] ++ Lib.itoa x := by
  cases xs with
  | nil => exact absurd rfl h
  | cons a l =>
    unfold joinT
    simp only [List.cons_append, List.map_cons, List.map_append, List.map_nil]
    rw [Lib.join_cons, Lib.join_cons]
    simp [Lib.joinTail]
theorem joinT_one (x : Int) : joinT [x] = Lib.itoa x := by unfold joinT; exact Lib.join_one _ _
theorem joinT_nil : joinT [] = [] := rfl
theorem joinT_cons (x : Int) (xs : List Int) (h : xs ≠ []) : joinT (x :: xs) = Lib.itoa x ++ [32] ++ joinT xs := by
  cases xs with
  | nil => exact absurd rfl h
  | cons a l =>
    unfold joinT
    simp only [List.map_cons]
    rw [Lib.join_cons, Lib.join_cons]
    simp [Lib.joinTail]
theorem itoa_len (n : Int) (h0 : -1000000000000000000 ≤ n) (h1 : n ≤ 1000000000000000000) : (Lib.itoa n).length ≤ 21 := Lib.itoa_length_le n (by omega) (by omega)
theorem joinT_take (xs : List Int) (k : Nat) (h : k < xs.length) : joinT (xs.take (k + 1)) = (if k = 0 then [] else joinT (xs.take k) ++ [32]) ++ Lib.itoa (xs.getD k 0) := by
  rw [take_snoc xs k h]
  by_cases e : k = 0
  · subst e; rw [if_pos rfl]; simp [joinT_one]
  · rw [if_neg e, joinT_snoc _ _ (by intro hn; have := congrArg List.length hn; rw [List.length_take, List.length_nil] at this; omega)]

set_option maxRecDepth 100000 in
theorem number_any (n : Int) (w : World) (h0 : -1000000000000000000 ≤ n) (h1 : n ≤ 1000000000000000000) :
    Calls Tryd.prog 26 #[.int .i64 n] w fun e w' => e = .returned (.string (S (Lib.itoa n))) ∧ Below w.heap.size w w' := by
  by_cases hn : n < 0
  · obtain ⟨m, rfl⟩ : ∃ m : Nat, n = -(m : Int) := ⟨(-n).toNat, by omega⟩
    have M : Hid (Lib.itoa (-(m : Int)) = [45] ++ Lib.decDigits m) := by show _ = _; rw [Lib.itoa_neg m (by omega)]; rfl
    have C := Lib.hid (fun w => dec_any (m + 1) m w (by omega) (by omega))
    have l := dec_len m (by omega)
    have hm : 0 < (m : Int) := by omega
    generalize Lib.itoa (-(m : Int)) = t at *
    generalize Lib.decDigits m = ds at *
    obtain ⟨z1, Z1, k1, A1⟩ := cat 100 ⟨#[45]⟩ (S ds) [45] ds rfl rfl (by simp; omega) (by omega)
    clear l k1 hn
    go_enter Tryd.func26, Tryd.ntmps26
    go_wp2_with fail
    refine (C.out _).mono ?_; rintro e w1 ⟨rfl, hb⟩
    go_wp2
    go_ret
    exact ⟨Base.ret_string (by rw [M.out, Z1.out]), hb⟩
  · have C := Lib.hid (fun w => dec n w (by omega) (by omega))
    have hn' : 0 ≤ n := by omega
    clear hn
    go_enter Tryd.func26, Tryd.ntmps26
    go_wp2_with fail
    refine (C.out _).mono ?_; rintro e w1 ⟨rfl, hb⟩
    go_wp2
    go_ret
    exact ⟨rfl, hb⟩

set_option maxRecDepth 100000 in
set_option maxHeartbeats 1000000 in
theorem l01Join_any (v : Value) (xs : List Int) (w : World) (h : Rd w v xs) (hn : xs.length ≤ 1000) (hw : within (-1000000000000000000) 1000000000000000000 xs = true) :
    Calls Tryd.prog 16 #[v, .string ⟨#[32]⟩] w fun e w' => e = .returned (.string (S (joinT xs))) ∧ Below w.heap.size w w' := by
  have WG := Lib.hid (fun i hi => within_get hw i hi)
  clear hw
  rcases h with ⟨rfl, rfl⟩ | ⟨b, off, cap, rfl, hn', hl, hc, hbl, hx⟩
  · go_enter Tryd.func16, Tryd.ntmps16
    go_wp2
    refine wp_loop_rounds 1 ?_; rw [rounds_succ]
    go_wp2
    go_ret
    exact ⟨rfl, Below.refl _ _⟩
  · have HX := Lib.hid hx
    clear hx
    go_enter Tryd.func16, Tryd.ntmps16
    go_wp2
    go_loopw [5, 6] (fun s i wr => ∃ (k : Nat) (t : List UInt8), k ≤ xs.length ∧ i = .int .i64 k ∧ s = .string (S t) ∧ Hid (t = joinT (xs.take k)) ∧ t.length ≤ 30 * k ∧ Hid (Below w.heap.size w wr)) (fun _ i _ => xs.length - (intOf i).toNat)
    case atStart => exact ⟨0, [], by omega, rfl, rfl, rfl, by simp, Below.refl _ _⟩
    case round =>
      obtain ⟨k, t, hk, rfl, rfl, HJ, ht, HB⟩ := hrel
      by_cases hlt : k < xs.length
      · have hck : wr.cell? ⟨b, off + k, none⟩ = some (.int .i64 (xs.getD k 0)) := (HB.out.cell (p := ⟨b, off + k, none⟩) hbl).trans (HX.out k hlt)
        have hg := WG.out k hlt
        have JT := Lib.hid (joinT_take xs k hlt)
        generalize xs.getD k 0 = x at *
        obtain ⟨g1, g2⟩ := hg
        have C := Lib.hid (fun w => number_any x w g1 g2)
        have hl2 := itoa_len x g1 g2
        generalize Lib.itoa x = tx at *
        have hki : (k : Int) < (xs.length : Int) := by omega
        by_cases h0 : k = 0
        · subst h0
          rw [Nat.add_zero] at hck
          obtain ⟨z1, Z1, k1, A1⟩ := cat 30 (S t) (S tx) t tx rfl rfl (by omega) (by omega)
          go_wp2_with fail
          refine (C.out _).mono ?_; rintro e w1 ⟨rfl, hb⟩
          have HB1 := Lib.hid (bl HB.out hb)
          have ht0 : Hid (t = []) := by show _ = _; exact HJ.out
          clear hb
          go_wp2
          go_roundw
          case rel => exact ⟨1, z1, by omega, rfl, rfl, by show _ = _; rw [Z1.out, ht0.out, JT.out]; rfl, by omega, HB1.out⟩
          case measure => simp [intOf]; omega
        · have hk0 : 0 < (k : Int) := by omega
          obtain ⟨z1, Z1, k1, A1⟩ := cat (30 * k + 1) (S t) ⟨#[32]⟩ t [32] rfl rfl (by simp; omega) (by omega)
          obtain ⟨z2, Z2, k2, A2⟩ := cat (30 * k + 30) (S z1) (S tx) z1 tx rfl rfl (by omega) (by omega)
          go_wp2_with fail
          refine (C.out _).mono ?_; rintro e w1 ⟨rfl, hb⟩
          have HB1 := Lib.hid (bl HB.out hb)
          clear hb
          go_wp2
          go_roundw
          case rel => exact ⟨k + 1, z2, by omega, by go_num, rfl, by show _ = _; rw [Z2.out, Z1.out, JT.out, if_neg h0, HJ.out], by omega, HB1.out⟩
          case measure => simp [intOf]; omega
      · obtain rfl : k = xs.length := by omega
        go_wp2
        go_ret
        exact ⟨Base.ret_string (by rw [HJ.out, List.take_length]), HB.out⟩

theorem infoS : (Tryd.prog.info? 9).map (fun i => (i.zero, i.size, i.bytes)) = some (some (.string ByteArray.empty), 1, 16) := by kernel_rfl
def strV (x : Int) : Value := .string (S (Lib.itoa x))

theorem joinT_len (xs : List Int) (hw : within (-1000000000000000000) 1000000000000000000 xs = true) (k : Nat) (hk : k ≤ xs.length) : (joinT (xs.take k)).length ≤ 30 * k := by
  induction k with
  | zero => simp [joinT_nil]
  | succ k ih =>
    have g := within_get hw k (by omega)
    have l := itoa_len _ g.1 g.2
    rw [joinT_take xs k (by omega), List.length_append]
    generalize Lib.itoa (xs.getD k 0) = y at *
    by_cases e : k = 0
    · rw [if_pos e]; simp; omega
    · rw [if_neg e, List.length_append]
      have := ih (by omega)
      simp; omega

theorem strJoin (g c : Nat) (xs : List Int) (w : World) (hcells : ∀ j, j < xs.length → w.cell? ⟨g, j, none⟩ = some (strV (xs.getD j 0))) (hg : g < w.heap.size) (hc : xs.length ≤ c) (hn : xs.length ≤ 1000) (hw : within (-1000000000000000000) 1000000000000000000 xs = true) :
    Calls Tryd.prog 40 #[.slice (some ⟨g, 0, none⟩) xs.length c, .string ⟨#[32]⟩] w fun e w' => e = .returned (.string (S (joinT xs))) ∧ Below w.heap.size w w' := by
  have e1 : ((xs.map fun x => S (Lib.itoa x)).map (·.data.toList)) = xs.map Lib.itoa := by rw [List.map_map]; exact List.map_congr_left fun x _ => S_list _
  have hl := joinT_len xs hw xs.length (Nat.le_refl _)
  rw [List.take_length] at hl
  have := Tryd.strings_Join g 0 c (xs.map fun x => S (Lib.itoa x)) ⟨#[32]⟩ w (fun j x hj => by
    have hj2 : j < xs.length := by
      have := (List.getElem?_eq_some_iff.1 hj).1
      simpa using this
    rw [Nat.zero_add, hcells j hj2]
    rw [List.getElem?_map, List.getElem?_eq_getElem hj2] at hj
    have hj3 : S (Lib.itoa xs[j]) = x := by simpa using hj
    rw [← hj3, getD_lt hj2]; rfl) hg (by rw [List.length_map]; omega) (by rw [List.length_map]; exact hc) (by rw [e1]; exact Nat.le_trans hl (by omega))
  rw [List.length_map, e1] at this
  exact this

theorem own_below {w w' : World} {B e n : Nat} {v : Value} {xs : List Value} (h : w.ownsRow B e 1 v n xs) (g : Below w.heap.size w w') : w'.ownsRow B e 1 v n xs :=
  h.kept (row := none) ⟨g.os, g.tape, g.output, g.size, fun i hi _ => g.block i hi⟩ (by
    cases hv : v.ownBlock with
    | none => exact .inl rfl
    | some k => right; intro e; cases e)

set_option maxRecDepth 100000 in
set_option maxHeartbeats 1000000 in
theorem joined_any (v : Value) (xs : List Int) (B : Nat) (w : World) (hT : Tab B w) (h : Rd w v xs) (hn : xs.length ≤ 1000) (hw : within (-1000000000000000000) 1000000000000000000 xs = true) :
    Calls Tryd.prog 23 #[v] w fun e w' => e = .returned (.string (S (joinT xs))) ∧ Below w.heap.size w w' := by
  obtain ⟨i0, hi, hz0, hz1, hz2⟩ := info_parts infoS
  have WG := Lib.hid (fun i hi => within_get hw i hi)
  have HW := Lib.hid hw
  have HT := Lib.hid hT
  clear hw hT
  rcases h with ⟨rfl, rfl⟩ | ⟨b, off, cap, rfl, hn', hl, hc, hbl, hx⟩
  · go_enter Tryd.func23, Tryd.ntmps23
    go_wp2_with fail
    refine wp_loop_rounds 1 ?_; rw [rounds_succ]
    go_wp2_with fail
    refine (Tryd.strings_Join_none _ _ _ _).mono ?_; rintro e w1 ⟨rfl, rfl⟩
    go_wp2
    go_ret
    exact ⟨rfl, b0 _ _⟩
  · have HX := Lib.hid hx
    clear hx
    go_enter Tryd.func23, Tryd.ntmps23
    go_wp2_with fail
    go_loopw [3, 9] (fun o i wr => ∃ (k : Nat) (ao : Option Addr) (c : Nat), k ≤ xs.length ∧ o = .slice ao k c ∧ i = .int .i64 k ∧ Hid (wr.ownsRow w.heap.size 9 1 (.slice ao k c) k ((xs.map strV).take k)) ∧ Hid (Below w.heap.size w wr)) (fun _ i _ => xs.length - (intOf i).toNat)
    case atStart => exact ⟨0, _, _, by omega, rfl, rfl, World.ownsRow_made w #[] 0 (Nat.le_refl _) (by unfold maxLen; omega) rfl, b0 _ _⟩
    case round =>
      obtain ⟨k, ao, c, hk, rfl, rfl, HO, HB⟩ := hrel
      by_cases hlt : k < xs.length
      · have hck : wr.cell? ⟨b, off + k, none⟩ = some (.int .i64 (xs.getD k 0)) := (HB.out.cell (p := ⟨b, off + k, none⟩) hbl).trans (HX.out k hlt)
        obtain ⟨g1, g2⟩ := WG.out k hlt
        have C := Lib.hid (fun w hT => decimal_any (xs.getD k 0) B w hT (by omega) (by omega))
        have SV : Hid (strV (xs.getD k 0) = .string (S (Lib.itoa (xs.getD k 0)))) := rfl
        have TK : Hid ((xs.map strV).take (k + 1) = (xs.map strV).take k ++ [strV (xs.getD k 0)]) := by show _ = _; rw [← List.map_take, take_snoc xs k hlt, List.map_append, List.map_take]; rfl
        have hki : (k : Int) < (xs.length : Int) := by omega
        generalize xs.getD k 0 = x at *
        generalize Lib.itoa x = tx at *
        go_wp2_with fail
        refine (C.out _ (HT.out.below HB.out)).mono ?_; rintro e w1 ⟨rfl, hb⟩
        have HB1 := Lib.hid (bl HB.out hb)
        have HO1 := Lib.hid (own_below HO.out hb)
        clear hb
        go_wp2_with (at_builtin; refine wpList_append_own _ rfl _ _ 31 rfl w.heap.size 9 i0 (.string ByteArray.empty) 1 16 Tryd.underlying31 hi hz0 hz1 hz2 rfl (by decide) _ _ _ rfl (HO1.out.alloc _) ⟨w1.heap.size, 0, none⟩ 1 1 [.string (S tx)] rfl rfl ?c1 ?c2 ?c3 ?c4 ?c5 ?c6)
        case c1 =>
          intro j u hj; match j, hj with | 0, hj => simp at hj; subst hj; simp [Addr.add]
        case c2 => intro u hu; simp at hu; subst hu; rfl
        case c3 => unfold maxLen; omega
        case c4 => omega
        case c5 => have := HB1.out.size; simp; omega
        intro v' w9 hown' hgrow hnil'
        obtain ⟨ao', c', rfl⟩ := own_shape hown'
        have HO9 := Lib.hid hown'
        have HB9 := Lib.hid (app_step HB1.out HB1.out.size HO1.out hgrow).1
        clear hown' hgrow hnil'
        go_wp2
        go_roundw
        case rel => exact ⟨k + 1, ao', c', by omega, rfl, by go_num, by show World.ownsRow _ _ _ _ _ _ _; rw [TK.out, SV.out]; exact HO9.out, HB9.out⟩
        case measure => simp [intOf]; omega
      · obtain rfl : k = xs.length := by omega
        by_cases h0 : xs = []
        · subst h0
          go_wp2_with fail
          refine (Tryd.strings_Join_none _ _ _ _).mono ?_; rintro e w1 ⟨rfl, rfl⟩
          go_wp2
          go_ret
          exact ⟨rfl, HB.out⟩
        · have hpos : 0 < xs.length := List.length_pos_iff.2 h0
          clear h0
          obtain ⟨g, rfl, hcap, hg, hcl⟩ : ∃ g, ao = some ⟨g, 0, none⟩ ∧ xs.length ≤ c ∧ g < wr.heap.size ∧ ∀ j, j < xs.length → wr.cell? ⟨g, j, none⟩ = some (strV (xs.getD j 0)) := by
            rcases HO.out.2 with ⟨_, h0⟩ | ⟨g, cp, cur, hv, hg, hh, hc1, _⟩
            · omega
            · have hO := HO.out
              injection hv with h1 h2 h3
              subst h1 h3
              refine ⟨g, rfl, hc1, (hO.lt g rfl).2, fun j hj => ?_⟩
              rw [hO.cellAt j (by omega), List.getElem?_take_of_lt hj, List.getElem?_map]
              simp [List.getD, hj]
          have JN := Lib.hid (strJoin g c xs wr hcl hg hcap hn HW.out)
          clear hcl
          go_wp2_with fail
          refine JN.out.mono ?_; rintro e w1 ⟨rfl, hb⟩
          go_wp2
          go_ret
          exact ⟨rfl, bl HB.out hb⟩

end Go.Proofs.YtfnmomdjmhbffaaDoor.Joins
