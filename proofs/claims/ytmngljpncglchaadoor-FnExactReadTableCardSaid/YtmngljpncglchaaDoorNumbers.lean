/-
  Contracts of readers of lists of words: the reference's l01Numbers, the program's readDecimal and readJoined.
  Conditions: the library's table, its errors and MaxLen read (Tab, DoorE, DoorM).
-/
import Derived.Test.YtmngljpncglchaaDoorWords
namespace Go.Proofs.YtmngljpncglchaaDoor.Numbers
open Go.RowKit Mem Texts TextPlain ReadPlain Reads Doors Words
set_option linter.unusedVariables false

theorem info64 : (Tryd.prog.info? 2).map (fun i => (i.zero, i.size, i.bytes)) = some (some (.int .i64 0), 1, 8) := by kernel_rfl
/-- All numbers lie strictly between two bounds. -/
def inB (lo hi : Int) (xs : List Int) : Prop := ∀ x ∈ xs, lo < x ∧ x < hi
theorem inB_snoc {lo hi x : Int} {xs : List Int} (h : inB lo hi xs) (a : lo < x) (b : x < hi) : inB lo hi (xs ++ [x]) := fun y hy => by
  rcases List.mem_append.1 hy with hy | hy
  · exact h y hy
  · simp at hy; subst hy; exact ⟨a, b⟩
/-- The words are the texts of numbers between the bounds. -/
def IsNums (lo hi : Int) (ws : List (List UInt8)) (xs : List Int) : Prop := ws = xs.map Lib.itoa ∧ inB lo hi xs
/-- What a reader of words returns. -/
def Nums (lo hi : Int) (ws : List (List UInt8)) (w : World) (e : Ending) (w' : World) : Prop := ∃ (v : Value) (ok : Bool), e = .returned (.tuple #[v, .bool ok]) ∧ Below w.heap.size w w' ∧
  ((ok = true ∧ ∃ xs, Sl w' w.heap.size v xs ∧ IsNums lo hi ws xs) ∨ (ok = false ∧ v = .slice none 0 0 ∧ ∀ xs, ¬ IsNums lo hi ws xs))
theorem nums_bad {lo hi : Int} {ws : List (List UInt8)} {k : Nat} (hk : k < ws.length) (h : ∀ m, lo < m → m < hi → ws.getD k [] ≠ Lib.itoa m) : ∀ xs, ¬ IsNums lo hi ws xs := fun xs ⟨h1, h2⟩ => by
  subst h1
  have hk2 : k < xs.length := by simpa using hk
  have := h2 xs[k] (List.getElem_mem hk2)
  refine h xs[k] this.1 this.2 ?_
  rw [getD_ltS hk]; simp
theorem nums_take {lo hi x : Int} {ws : List (List UInt8)} {k : Nat} {xs : List Int} (hk : k < ws.length) (h : IsNums lo hi (ws.take k) xs) (a : lo < x) (b : x < hi) (e : ws.getD k [] = Lib.itoa x) : IsNums lo hi (ws.take (k + 1)) (xs ++ [x]) := by
  refine ⟨?_, inB_snoc h.2 a b⟩
  rw [List.take_succ_eq_append_getElem hk, h.1, List.map_append, ← getD_ltS hk, e]; rfl
theorem nums_len {lo hi : Int} {ws : List (List UInt8)} {xs : List Int} (h : IsNums lo hi ws xs) : xs.length = ws.length := by rw [h.1]; simp

set_option maxHeartbeats 1000000 in
set_option maxRecDepth 100000 in
theorem l01Numbers_any (v : Value) (ws : List (List UInt8)) (w : World) (h : RdS w v ws) (hw : ∀ x ∈ ws, x.length ≤ 1048576) :
    Calls Tryd.prog 100 #[v] w (Nums (-10000000000000) 10000000000000 ws w) := by
  obtain ⟨i0, hi, hz0, hz1, hz2⟩ := info_parts info64
  obtain ⟨b, cap, rfl, hp, hn, hc, ⟨cur, hcur⟩, hx⟩ := h
  have hbl := lt_of_get hcur
  clear hcur
  have HX := Lib.hid hx
  have HW := Lib.hid hw
  clear hx hw
  go_enter Tryd.func100, Tryd.ntmps100
  go_wp2_with fail
  go_loopw [4, 5] (fun o i wr => ∃ (k cc : Nat) (ao : Option Addr) (xs : List Int), k ≤ ws.length ∧ o = .slice ao k cc ∧ i = .int .i64 k ∧ Hid (wr.ownsRow w.heap.size 2 1 (.slice ao k cc) k (xs.map (Value.int .i64))) ∧ Hid (Below w.heap.size w wr) ∧ Hid (IsNums (-10000000000000) 10000000000000 (ws.take k) xs)) (fun _ i _ => ws.length - (intOf i).toNat)
  case atStart => exact ⟨0, _, _, [], by omega, rfl, rfl, World.ownsRow_made w #[] 0 (Nat.le_refl _) (by unfold maxLen; omega) rfl, b0 _ _, ⟨rfl, fun x hx => by cases hx⟩⟩
  case round =>
    obtain ⟨k, cc, ao, xs, hk, rfl, rfl, HO, HB, HI⟩ := hrel
    by_cases hlt : k < ws.length
    · have hck : wr.cell? ⟨b, k, none⟩ = some (.string (S (ws.getD k []))) := (HB.out.cell (p := ⟨b, k, none⟩) hbl).trans (HX.out k hlt)
      have SG : Hid (Calls Tryd.prog 123 #[.string (S (ws.getD k []))] wr (Sgn (ws.getD k []) wr)) := by
        have := l01Signed_any (S (ws.getD k [])) wr (by rw [S_size, getD_ltS hlt]; exact HW.out _ (List.getElem_mem hlt))
        rw [S_list] at this; exact this
      have NB := Lib.hid (fun h => nums_bad (lo := -10000000000000) (hi := 10000000000000) hlt h)
      have NT := Lib.hid (fun x a b e => nums_take (x := x) hlt HI.out a b e)
      generalize ws.getD k [] = word at *
      have hki : (k : Int) < (ws.length : Int) := by omega
      have hk0 : (0 : Int) ≤ (k : Int) := by omega
      go_wp2_with fail
      refine SG.out.mono ?_; rintro e w1 ⟨n, ok, rfl, n0, n1, h1, h2, hb⟩
      have H1 := Lib.hid h1
      have H2 := Lib.hid h2
      have HB1 := Lib.hid (bl HB.out hb)
      have HO1 := Lib.hid (Joins.own_below HO.out hb)
      clear h1 h2 hb
      cases ok with
      | false =>
        have R := Lib.hid (NB.out fun m m0 m1 e => by have := (H2.out m m0 m1 e).1; cases this)
        go_wp2
        go_ret2
        exact ⟨_, false, rfl, HB1.out, .inr ⟨rfl, rfl, R.out⟩⟩
      | true =>
        have I2 := Lib.hid (NT.out n n0 n1 (H1.out (by trivial)))
        go_wp2_with (at_builtin; refine wpList_append_own _ rfl _ _ 30 rfl w.heap.size 2 i0 (.int .i64 0) 1 8 Tryd.underlying30 hi hz0 hz1 hz2 rfl (by decide) _ _ _ rfl (HO1.out.alloc _) ⟨w1.heap.size, 0, none⟩ 1 1 [.int .i64 n] rfl rfl ?c1 ?c2 ?c3 ?c4 ?c5 ?c6)
        case c1 =>
          intro j u hj; match j, hj with | 0, hj => simp at hj; subst hj; simp [Addr.add]
        case c2 => intro u hu; simp at hu; subst hu; rfl
        case c3 => unfold maxLen; omega
        case c4 => omega
        case c5 => have := HB1.out.size; simp; omega
        intro v' w9 hown' hgrow hnil'
        obtain ⟨ao', c', rfl⟩ := own_shape hown'
        have HO9 := Lib.hid hown'
        have HB9 := Lib.hid (app_step HB1.out HB1.out.size HO1.out hgrow).1
        clear hown' hgrow hnil'
        go_wp2
        go_roundw
        case rel => exact ⟨k + 1, c', ao', xs ++ [n], by omega, rfl, by go_num, by show World.ownsRow _ _ _ _ _ _ _; rw [List.map_append]; exact HO9.out, HB9.out, I2.out⟩
        case measure => simp [intOf]; omega
    · obtain rfl : k = ws.length := by omega
      have I2 : Hid (IsNums (-10000000000000) 10000000000000 ws xs) := by have := HI.out; rw [List.take_length] at this; exact this
      have HS := Lib.hid (sl_of_own (n := ws.length) (xs := xs) HO.out (by rw [nums_len I2.out]; omega))
      go_wp2
      go_ret2
      exact ⟨_, true, rfl, HB.out, .inl ⟨rfl, xs, HS.out, I2.out⟩⟩

/-- What the program's reader of one number returns. -/
def Rdc (l : List UInt8) (w : World) (e : Ending) (w' : World) : Prop := ∃ (n : Int) (ok : Bool), e = .returned (.tuple #[.int .i64 n, .bool ok]) ∧ -1 < n ∧ n < 9223372036854775808 ∧ (ok = true → l = Lib.itoa n) ∧ (∀ m : Int, -1 < m → m < 9223372036854775808 → l = Lib.itoa m → ok = true ∧ n = m) ∧ Below w.heap.size w w'
set_option maxHeartbeats 1000000 in
set_option maxRecDepth 100000 in
theorem readDecimal_any (s : ByteArray) (B : Nat) (w : World) (hs : s.size ≤ 1048576) (hT : Tab B w) (hD : DoorE w) :
    Calls Tryd.prog 125 #[.string s] w (Rdc s.data.toList w) := by
  have P := Lib.hid (parse_any s w (by omega) hD)
  have HT := Lib.hid hT
  clear hT hD
  go_enter Tryd.func125, Tryd.ntmps125
  go_wp2_with fail
  refine P.out.mono ?_; rintro e w1 ⟨v, x, rfl, v0, v1, hb1, hp⟩
  have HB1 := Lib.hid hb1
  have HT1 := Lib.hid (HT.out.below hb1)
  clear hb1 P
  rcases hp with ⟨rfl, hp⟩ | ⟨⟨T1, N1, rfl⟩, hp⟩
  · have key : Hid (∀ m : Int, -1 < m → m < 9223372036854775808 → s.data.toList = Lib.itoa m → v = m) := fun m m0 m1 e => by
      rw [e, parse_itoa m (by omega) (by omega)] at hp; injection hp with hp; exact hp.symm
    clear hp
    by_cases hv : v < 0
    · go_wp2
      go_ret2
      exact ⟨0, false, rfl, by omega, by omega, (fun h => by cases h), (fun m m0 m1 e => by have := key.out m m0 m1 e; omega), HB1.out⟩
    · have hv0 : 0 ≤ v := by omega
      have DC := Lib.hid (decimal_any v B w1 HT1.out (by omega) (by omega))
      clear hv v0
      by_cases hA : Lib.itoa v = s.data.toList
      · have Q1 : Hid (((S (Lib.itoa v)).toList == s.toList) = true) := (Lib.bytes_beq_iff _ _).2 (by rw [hA]; rfl)
        have F : Hid (∀ w2, Below w.heap.size w w2 → Rdc s.data.toList w (.returned (.tuple #[.int .i64 v, .bool true])) w2) := fun w2 hb => ⟨v, true, rfl, by omega, by omega, (fun _ => hA.symm), (fun m m0 m1 e => ⟨rfl, key.out m m0 m1 e⟩), hb⟩
        clear hA
        generalize Lib.itoa v = tx at *
        go_wp2_with fail
        refine DC.out.mono ?_; rintro e w2 ⟨rfl, hb2⟩
        have q1 := Q1.out
        go_wp2
        go_ret2
        exact F.out _ (bl HB1.out hb2)
      · have Q1 : Hid (((S (Lib.itoa v)).toList == s.toList) = false) := (Lib.bytes_beq_false_iff _ _).2 (fun e => hA (by rw [← e]; exact (S_list _).symm))
        have F : Hid (∀ w2, Below w.heap.size w w2 → Rdc s.data.toList w (.returned (.tuple #[.int .i64 0, .bool false])) w2) := fun w2 hb => ⟨0, false, rfl, by omega, by omega, (fun h => by cases h), (fun m m0 m1 e => absurd (by rw [key.out m m0 m1 e, e]) hA), hb⟩
        clear hA
        generalize Lib.itoa v = tx at *
        go_wp2_with fail
        refine DC.out.mono ?_; rintro e w2 ⟨rfl, hb2⟩
        have q1 := Q1.out
        go_wp2
        go_ret2
        exact F.out _ (bl HB1.out hb2)
  · have key : Hid (∀ m : Int, -1 < m → m < 9223372036854775808 → s.data.toList ≠ Lib.itoa m) := fun m m0 m1 e => hp _ (by rw [e]; exact parse_itoa m (by omega) (by omega))
    clear hp
    go_wp2
    go_ret2
    exact ⟨0, false, rfl, by omega, by omega, (fun h => by cases h), (fun m m0 m1 e => absurd e (key.out m m0 m1)), HB1.out⟩
set_option maxHeartbeats 1000000 in
set_option maxRecDepth 100000 in
theorem readJoined_any (s : ByteArray) (B : Nat) (w : World) (hs : s.size ≤ 1048576) (hT : Tab B w) (hD : DoorE w) (hM : DoorM w) :
    Calls Tryd.prog 102 #[.string s] w (Nums (-1) 9223372036854775808 (splitC 32 s.data.toList) w) := by
  obtain ⟨i0, hi, hz0, hz1, hz2⟩ := info_parts info64
  have HT := Lib.hid hT
  have HD := Lib.hid hD
  have HM := Lib.hid hM
  have HW : Hid (∀ x ∈ splitC 32 s.data.toList, x.length ≤ 1048576) := fun x hx => by
    have := splitC_word 32 _ x hx
    rw [show s.data.toList.length = s.size by simp] at this; omega
  have SP := Lib.hid (fun w hM => split_any s 32 w hs hM)
  clear hT hD hM
  generalize splitC 32 s.data.toList = ws at *
  go_enter Tryd.func102, Tryd.ntmps102
  go_wp2_with fail
  refine (SP.out _ (HM.out.below (b0 _ _))).mono ?_; rintro e w1 ⟨v, rfl, hr, hb1⟩
  obtain ⟨b, cap, rfl, hp, hn, hc, ⟨cur, hcur⟩, hx⟩ := hr
  have HC := Lib.hid hcur
  clear hcur
  have HX := Lib.hid hx
  have HB1 := Lib.hid hb1
  have HBW := Lib.hid (bl (b0 w _) hb1)
  have HO0 : Hid (w1.ownsRow w.heap.size 2 1 (.slice (some ⟨w.heap.size, 0, none⟩) 0 0) 0 (([] : List Int).map (Value.int .i64))) :=
    Joins.own_below (World.ownsRow_made w #[] 0 (Nat.le_refl _) (by unfold maxLen; omega) rfl) hb1
  clear hx hb1 SP
  go_wp2_with fail
  go_loopw [4, 13] (fun o i wr => ∃ (k cc : Nat) (ao : Option Addr) (xs : List Int), k ≤ ws.length ∧ o = .slice ao k cc ∧ i = .int .i64 k ∧ Hid (wr.ownsRow w.heap.size 2 1 (.slice ao k cc) k (xs.map (Value.int .i64))) ∧ Hid (Below w.heap.size w wr) ∧ Hid (∀ i, i < ws.length → wr.cell? ⟨b, i, none⟩ = some (.string (S (ws.getD i [])))) ∧ Hid (wr.heap[b]? = some (.cells cur 9 (0, 0))) ∧ Hid (IsNums (-1) 9223372036854775808 (ws.take k) xs)) (fun _ i _ => ws.length - (intOf i).toNat)
  case atStart => exact ⟨0, _, _, [], by omega, rfl, rfl, HO0.out, HBW.out, HX.out, HC.out, ⟨rfl, fun x hx => by cases hx⟩⟩
  case round =>
    obtain ⟨k, cc, ao, xs, hk, rfl, rfl, HO, HB, HXr, HBL, HI⟩ := hrel
    by_cases hlt : k < ws.length
    · have hck : wr.cell? ⟨b, k, none⟩ = some (.string (S (ws.getD k []))) := HXr.out k hlt
      have SG : Hid (Calls Tryd.prog 125 #[.string (S (ws.getD k []))] wr (Rdc (ws.getD k []) wr)) := by
        have := readDecimal_any (S (ws.getD k [])) B wr (by rw [S_size, getD_ltS hlt]; exact HW.out _ (List.getElem_mem hlt)) (HT.out.below HB.out) (HD.out.below HB.out)
        rw [S_list] at this; exact this
      have NB := Lib.hid (fun h => nums_bad (lo := -1) (hi := 9223372036854775808) hlt h)
      have NT := Lib.hid (fun x a b e => nums_take (x := x) hlt HI.out a b e)
      generalize ws.getD k [] = word at *
      have hki : (k : Int) < (ws.length : Int) := by omega
      have hk0 : (0 : Int) ≤ (k : Int) := by omega
      go_wp2_with fail
      refine SG.out.mono ?_; rintro e w2 ⟨n, ok, rfl, n0, n1, h1, h2, hb⟩
      have H1 := Lib.hid h1
      have H2 := Lib.hid h2
      have HB2 := Lib.hid (bl HB.out hb)
      have HO1 := Lib.hid (Joins.own_below HO.out hb)
      have HX2 : Hid (∀ i, i < ws.length → w2.cell? ⟨b, i, none⟩ = some (.string (S (ws.getD i [])))) := fun i hi => (hb.cell (p := ⟨b, i, none⟩) (lt_of_get HBL.out)).trans (HXr.out i hi)
      have HBL2 : Hid (w2.heap[b]? = some (.cells cur 9 (0, 0))) := (hb.block b (lt_of_get HBL.out)).trans HBL.out
      clear h1 h2 hb
      cases ok with
      | false =>
        have R := Lib.hid (NB.out fun m m0 m1 e => by have := (H2.out m m0 m1 e).1; cases this)
        go_wp2
        go_ret2
        exact ⟨_, false, rfl, HB2.out, .inr ⟨rfl, rfl, R.out⟩⟩
      | true =>
        have I2 := Lib.hid (NT.out n n0 n1 (H1.out (by trivial)))
        go_wp2_with (at_builtin; refine wpList_append_own _ rfl _ _ 30 rfl w.heap.size 2 i0 (.int .i64 0) 1 8 Tryd.underlying30 hi hz0 hz1 hz2 rfl (by decide) _ _ _ rfl (HO1.out.alloc _) ⟨w2.heap.size, 0, none⟩ 1 1 [.int .i64 n] rfl rfl ?c1 ?c2 ?c3 ?c4 ?c5 ?c6)
        case c1 =>
          intro j u hj; match j, hj with | 0, hj => simp at hj; subst hj; simp [Addr.add]
        case c2 => intro u hu; simp at hu; subst hu; rfl
        case c3 => unfold maxLen; omega
        case c4 => omega
        case c5 => have := HB2.out.size; simp; omega
        intro v' w9 hown' hgrow hnil'
        obtain ⟨ao', c', rfl⟩ := own_shape hown'
        have HO9 := Lib.hid hown'
        have HB9 := Lib.hid (app_step HB2.out HB2.out.size HO1.out hgrow).1
        have hne := own_ne HO1.out HBL2.out (by decide)
        have HX9 : Hid (∀ i, i < ws.length → w9.cell? ⟨b, i, none⟩ = some (.string (S (ws.getD i [])))) := fun i hi => hgrow.cell (a := ⟨b, i, none⟩) (((b0 w2 _).cell (p := ⟨b, i, none⟩) (lt_of_get HBL2.out)).trans (HX2.out i hi)) (fun e => hne e.symm)
        have HBL9 : Hid (w9.heap[b]? = some (.cells cur 9 (0, 0))) := app_block HO1.out hgrow hne HBL2.out
        clear hown' hgrow hnil' hne
        go_wp2
        go_roundw
        case rel => exact ⟨k + 1, c', ao', xs ++ [n], by omega, rfl, by go_num, by show World.ownsRow _ _ _ _ _ _ _; rw [List.map_append]; exact HO9.out, HB9.out, HX9.out, HBL9.out, I2.out⟩
        case measure => simp [intOf] <;> omega
    · obtain rfl : k = ws.length := by omega
      have I2 : Hid (IsNums (-1) 9223372036854775808 ws xs) := by have := HI.out; rw [List.take_length] at this; exact this
      have HS := Lib.hid (sl_of_own (n := ws.length) (xs := xs) HO.out (by rw [nums_len I2.out]; omega))
      go_wp2
      go_ret2
      exact ⟨_, true, rfl, HB.out, .inl ⟨rfl, xs, HS.out, I2.out⟩⟩
end Go.Proofs.YtmngljpncglchaaDoor.Numbers
