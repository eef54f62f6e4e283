/-
  Contracts of readers of lists of words: the reference's l01Numbers, the program's readDecimal and readJoined.
  Conditions: the library's table, its errors and MaxLen read (Tab, DoorE, DoorM).
-/
import Derived.Test.YtfnmomdjmhbffaaDoorWords
namespace Go.Proofs.YtfnmomdjmhbffaaDoor.Numbers
open Go.RowKit Mem Texts TextPlain ReadPlain Reads Doors Words
set_option linter.unusedVariables false

theorem info64 : (Tryd.prog.info? 2).map (fun i => (i.zero, i.size, i.bytes)) = some (some (.int .i64 0), 1, 8) := by kernel_rfl
/-- All numbers lie strictly between two bounds. -/
def inB (lo hi : Int) (xs : List Int) : Prop := ∀ x ∈ xs, lo < x ∧ x < hi
theorem inB_snoc {lo hi x : Int} {xs : List Int} (h : inB lo hi xs) (a : lo < x) (b : x < hi) : inB lo hi (xs ++ [x]) := fun y hy => by
  rcases List.mem_append.1 hy with hy | hy
  · exact h y hy
  · simp at hy; subst hy; exact ⟨a, b⟩
/-- The words are the texts of numbers between the bounds. -/
def IsNums (lo hi : Int) (ws : List (List UInt8)) (xs : List Int) : Prop := ws = xs.map Lib.itoa ∧ inB lo hi xs
/-- What a reader of words returns. -/
def Nums (lo hi : Int) (ws : List (List UInt8)) (w : World) (e : Ending) (w' : World) : Prop := ∃ (v : Value) (ok : Bool), e = .returned (.tuple #[v, .bool ok]) ∧ Below w.heap.size w w' ∧
  ((ok = true ∧ ∃ xs, Sl w' w.heap.size v xs ∧ IsNums lo hi ws xs) ∨ (ok = false ∧ v = .slice none 0 0 ∧ ∀ xs, ¬ IsNums lo hi ws xs))
theorem nums_bad {lo hi : Int} {ws : List (List UInt8)} {k : Nat} (hk : k < ws.length) (h : ∀ m, lo < m → m < hi → ws.getD k [] ≠ Lib.itoa m) : ∀ xs, ¬ IsNums lo hi ws xs := fun xs ⟨h1, h2⟩ => by
  subst h1
  have hk2 : k < xs.length := by simpa using hk
  have := h2 xs[k] (List.getElem_mem hk2)
  refine h xs[k] this.1 this.2 ?_
  rw [getD_ltS hk]; simp
theorem nums_take {lo hi x : Int} {ws : List (List UInt8)} {k : Nat} {xs : List Int} (hk : k < ws.length) (h : IsNums lo hi (ws.take k) xs) (a : lo < x) (b : x < hi) (e : ws.getD k [] = Lib.itoa x) : IsNums lo hi (ws.take (k + 1)) (xs ++ [x]) := by
  refine ⟨?_, inB_snoc h.2 a b⟩
  rw [List.take_succ_eq_append_getElem hk, h.1, List.map_append, ← getD_ltS hk, e]; rfl
theorem nums_len {lo hi : Int} {ws : List (List UInt8)} {xs : List Int} (h : IsNums lo hi ws xs) : xs.length = ws.length := by rw [h.1]; simp

set_option maxHeartbeats 1000000 in
set_option maxRecDepth 100000 in
theorem l01Numbers_any (v : Value) (ws : List (List UInt8)) (w : World) (h : RdS w v ws) (hw : ∀ x ∈ ws, x.length ≤ 1048576) :
    Calls Tryd.prog 7 #[v] w (Nums (-10000000000000) 10000000000000 ws w) := by
  obtain ⟨i0, hi, hz0, hz1, hz2⟩ := info_parts info64
  obtain ⟨b, cap, rfl, hp, hn, hc, ⟨cur, hcur⟩, hx⟩ := h
  have hbl := lt_of_get hcur
  clear hcur
  have HX := Lib.hid hx
  have HW := Lib.hid hw
  clear hx hw
  go_enter Tryd.func7, Tryd.ntmps7
  go_wp2_with fail
  go_loopw [4, 5] (fun o i wr => ∃ (k cc : Nat) (ao : Option Addr) (xs : List Int), k ≤ ws.length ∧ o = .slice ao k cc ∧ i = .int .i64 k ∧ Hid (wr.ownsRow w.heap.size 2 1 (.slice ao k cc) k (xs.map (Value.int .i64))) ∧ Hid (Below w.heap.size w wr) ∧ Hid (IsNums (-10000000000000) 10000000000000 (ws.take k) xs)) (fun _ i _ => ws.length - (intOf i).toNat)
  case atStart => exact ⟨0, _, _, [], by omega, rfl, rfl, World.ownsRow_made w #[] 0 (Nat.le_refl _) (by unfold maxLen; omega) rfl, b0 _ _, ⟨rfl, fun x hx => by cases hx⟩⟩
  case round =>
    obtain ⟨k, cc, ao, xs, hk, rfl, rfl, HO, HB, HI⟩ := hrel
    by_cases hlt : k < ws.length
    · have hck : wr.cell? ⟨b, k, none⟩ = some (.string (S (ws.getD k []))) := (HB.out.cell (p := ⟨b, k, none⟩) hbl).trans (HX.out k hlt)
      have SG : Hid (Calls Tryd.prog 14 #[.string (S (ws.getD k []))] wr (Sgn (ws.getD k []) wr)) := by
        have := l01Signed_any (S (ws.getD k [])) wr (by rw [S_size, getD_ltS hlt]; exact HW.out _ (List.getElem_mem hlt))
        rw [S_list] at this; exact this
      have NB := Lib.hid (fun h => nums_bad (lo := -10000000000000) (hi := 10000000000000) hlt h)
      have NT := Lib.hid (fun x a b e => nums_take (x := x) hlt HI.out a b e)
      generalize ws.getD k [] = word at *
      have hki : (k : Int) < (ws.length : Int) := by omega
      have hk0 : (0 : Int) ≤ (k : Int) := by omega
      go_wp2_with fail
      refine SG.out.mono ?_; rintro e w1 ⟨n, ok, rfl, n0, n1, h1, h2, hb⟩
      have H1 := Lib.hid h1
      have H2 := Lib.hid h2
      have HB1 := Lib.hid (bl HB.out hb)
      have HO1 := Lib.hid (Joins.own_below HO.out hb)
      clear h1 h2 hb
      cases ok with
      | false =>
        have R := Lib.hid (NB.out fun m m0 m1 e => by have := (H2.out m m0 m1 e).1; cases this)
        go_wp2
        go_ret2
        exact ⟨_, false, rfl, HB1.out, .inr ⟨rfl, rfl, R.out⟩⟩
      | true =>
        have I2 := Lib.hid (NT.out n n0 n1 (H1.out (by trivial)))
        go_wp2_with (at_builtin; refine wpList_append_own _ rfl _ _ 28 rfl w.heap.size 2 i0 (.int .i64 0) 1 8 Tryd.underlying28 hi hz0 hz1 hz2 rfl (by decide) _ _ _ rfl (HO1.out.alloc _) ⟨w1.heap.size, 0, none⟩ 1 1 [.int .i64 n] rfl rfl ?c1 ?c2 ?c3 ?c4 ?c5 ?c6)
        case c1 =>
          intro j u hj; match j, hj with | 0, hj => simp at hj; subst hj; simp [Addr.add]
        case c2 => intro u hu; simp at hu; subst hu; rfl
        case c3 => unfold maxLen; omega
        case c4 => omega
        case c5 => have := HB1.out.size; simp; omega
        intro v' w9 hown' hgrow hnil'
        obtain ⟨ao', c', rfl⟩ := own_shape hown'
        have HO9 := Lib.hid hown'
        have HB9 := Lib.hid (app_step HB1.out HB1.out.size HO1.out hgrow).1
        clear hown' hgrow hnil'
        go_wp2
        go_roundw
        case rel => exact ⟨k + 1, c', ao', xs ++ [n], by omega, rfl, by go_num, by show World.ownsRow _ _ _ _ _ _ _; rw [List.map_append]; exact HO9.out, HB9.out, I2.out⟩
        case measure => simp [intOf]; omega
    · obtain rfl : k = ws.length := by omega
      have I2 : Hid (IsNums (-10000000000000) 10000000000000 ws xs) := by have := HI.out; rw [List.take_length] at this; exact this
      have HS := Lib.hid (sl_of_own (n := ws.length) (xs := xs) HO.out (by rw [nums_len I2.out]; omega))
      go_wp2
      go_ret2
      exact ⟨_, true, rfl, HB.out, .inl ⟨rfl, xs, HS.out, I2.out⟩⟩

end Go.Proofs.YtfnmomdjmhbffaaDoor.Numbers
