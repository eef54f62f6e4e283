/-
  Contracts of the laws' own helpers on slices of int64: a copy is made (toInt64S), numbers are written (markInt64S), looked for (heldInt64S), counted (szInt64S).
  Conditions: a slice has at most 1048576 elements.
-/
import Derived.Test.YtenaeehefamdmaaLists
namespace Go.Proofs.Ytenaeehefamdmaa.Helpers
open Go.RowKit Mem
set_option linter.unusedVariables false

theorem info64 : (Try.prog.info? 2).map (fun i => (i.zero, i.size, i.bytes)) = some (some (.int .i64 0), 1, 8) := by kernel_rfl

/-- A row of zeros that is filled from a list, k cells done. -/
def fill (xs : List Int) (k : Nat) : List Int := xs.take k ++ List.replicate (xs.length - k) 0
theorem fill_length (xs : List Int) (k : Nat) (h : k ≤ xs.length) : (fill xs k).length = xs.length := by simp [fill]; omega
theorem fill_zero (xs : List Int) : fill xs 0 = List.replicate xs.length 0 := by simp [fill]
theorem fill_all (xs : List Int) : fill xs xs.length = xs := by simp [fill]
theorem fill_at (xs : List Int) (k : Nat) (h : k < xs.length) : (fill xs k)[k]? = some 0 := by
  unfold fill
  rw [List.getElem?_append_right (by simp; omega)]
  rw [List.length_take, Nat.min_eq_left (by omega), Nat.sub_self]
  rw [List.getElem?_replicate, if_pos (by omega)]
theorem fill_step (xs : List Int) (k : Nat) (h : k < xs.length) : (fill xs k).set k (xs.getD k 0) = fill xs (k + 1) := by
  unfold fill
  rw [List.set_append_right _ _ (by simp; omega), List.length_take, Nat.min_eq_left (by omega), Nat.sub_self]
  obtain ⟨m, hm⟩ : ∃ m, xs.length - k = m + 1 := ⟨xs.length - k - 1, by omega⟩
  rw [hm, show xs.length - (k + 1) = m from by omega, List.replicate_succ, List.set_cons_zero, take_snoc xs k h, List.append_assoc]
  rfl

set_option maxHeartbeats 1000000 in
set_option maxRecDepth 1000000 in
theorem toInt64S_any (v : Value) (xs : List Int) (w : World) (h : Arg w v xs) (hn : xs.length ≤ 1048576) :
    Calls Try.prog 17 #[v] w fun e w' => ∃ u, e = .returned u ∧ Sl w' w.heap.size u xs ∧ Below w.heap.size w w' := by
  obtain ⟨i0, hi, hz0, hz1, hz2⟩ := info_parts info64
  have mk := fun n => toList_madeCells_one (.int .i64 0) n
  have MK := Lib.hid mk
  clear mk
  by_cases hp : xs = []
  · subst hp
    have hv : ∃ a c, v = .slice a 0 c := by
      rcases h with ⟨a, c, rfl, _⟩ | ⟨rfl, _⟩ | ⟨b, off, cap, rfl, _⟩
      · exact ⟨_, _, rfl⟩
      · exact ⟨_, _, rfl⟩
      · exact ⟨_, _, rfl⟩
    clear h
    obtain ⟨a, c, rfl⟩ := hv
    go_enter Try.func17, Try.ntmps17
    go_wp2_with (at_make; refine wpList_make_full _ rfl _ _ 22 rfl w.heap.size 2 i0 (.int .i64 0) 1 Try.underlying22 hi hz0 hz1 _ _ _ _ 0 rfl rfl (by first | rfl | omega) (by first | rfl | omega) (by rw [hz2]; omega) (by unfold maxLen; omega) (by omega) ?_; intro w1 hown hgrow)
    refine wp_loop_rounds 1 ?_; rw [rounds_succ]
    go_wp2
    go_ret
    exact ⟨_, rfl, sl_of_own (n := 0) (by simpa [madeCells] using hown) (by simp), (Below.refl _ _).grown hgrow (by omega) (fun k hk => by cases hk)⟩
  · have hpos : 0 < xs.length := List.length_pos_iff.2 hp
    clear hp
    rcases h with ⟨a, c, rfl, rfl⟩ | ⟨rfl, rfl⟩ | ⟨b, off, cap, rfl, hnn, hln, hc, hbl, hx⟩
    · simp at hpos
    · simp at hpos
    have HX := Lib.hid hx
    clear hx
    go_enter Try.func17, Try.ntmps17
    go_wp2_with (at_make; refine wpList_make_full _ rfl _ _ 22 rfl w.heap.size 2 i0 (.int .i64 0) 1 Try.underlying22 hi hz0 hz1 _ _ _ _ xs.length rfl rfl (by first | rfl | omega) (by first | rfl | omega) (by rw [hz2]; omega) (by unfold maxLen; omega) (by omega) ?_; intro w1 hown hgrow)
    have hb1 : Below w.heap.size w w1 := (Below.refl _ _).grown hgrow (by omega) (fun k hk => by cases hk)
    have hown1 : w1.ownsRow w.heap.size 2 1 (.slice (some ⟨w.heap.size, 0, none⟩) xs.length xs.length) xs.length ((fill xs 0).map (Value.int .i64)) := by
      rw [fill_zero, List.map_replicate]
      have := hown
      rw [Nat.mul_one, show (Value.int .i64 0).cells = #[Value.int .i64 0] from rfl, MK.out] at this
      exact this
    clear hown hgrow
    go_loopw [4] (fun i wr => ∃ k : Nat, k ≤ xs.length ∧ i = .int .i64 k ∧ wr.ownsRow w.heap.size 2 1 (.slice (some ⟨w.heap.size, 0, none⟩) xs.length xs.length) xs.length ((fill xs k).map (Value.int .i64)) ∧ Below w.heap.size w wr) (fun i _ => xs.length - (intOf i).toNat)
    case atStart => exact ⟨0, by omega, rfl, hown1, hb1⟩
    case round =>
      obtain ⟨k, hk, rfl, hown, hb⟩ := hrel
      by_cases hlt : k < xs.length
      · have hc1 : wr.cell? ⟨b, off + k, none⟩ = some (.int .i64 (xs.getD k 0)) := (hb.cell (p := ⟨b, off + k, none⟩) hbl).trans (HX.out k hlt)
        have hcz : wr.cell? ⟨w.heap.size, k, none⟩ = some (.int .i64 0) := by
          rw [hown.cellAt k (by omega), List.getElem?_map, fill_at xs k hlt]; rfl
        have hfz := hown.frozenAt k
        obtain ⟨s1, s2⟩ := hown.stored k (.int .i64 (xs.getD k 0))
        have FS := Lib.hid (fill_step xs k hlt)
        rw [← List.map_set, FS.out] at s1
        have hb2 := hb.setCell (p := ⟨w.heap.size, k, none⟩) (Nat.le_refl _) (.int .i64 (xs.getD k 0))
        generalize xs.getD k 0 = x at hc1 s1 s2 FS hb2
        clear hown s2
        go_wp2
        go_roundw
        case rel => exact ⟨k + 1, by omega, by go_num, s1, hb2⟩
        case measure => simp [intOf]; omega
      · obtain rfl : k = xs.length := by omega
        go_wp2
        go_ret
        exact ⟨_, rfl, sl_of_own (by rw [fill_all] at hown; exact hown) (by omega), hb⟩

theorem szInt64S_yes (a : Option Addr) (n c : Nat) (l : Int) (w : World) (hn : n ≤ 9223372036854775807) (h1 : (n : Int) ≤ l) (h2 : l ≤ 1048576) :
    Calls Try.prog 23 #[.slice a n c, .int .i64 l] w fun e w' => e = .returned (.int .i64 (l - n)) ∧ w = w' := by
  go_enter Try.func23, Try.ntmps23
  go_wp2
  go_ret
  exact ⟨rfl, rfl⟩

theorem szInt64S_no (a : Option Addr) (n c : Nat) (l : Int) (w : World) (hn : n ≤ 9223372036854775807) (h0 : 0 ≤ l) (h1 : l < (n : Int)) (h2 : l ≤ 1048576) :
    Calls Try.prog 23 #[.slice a n c, .int .i64 l] w fun e w' => e = .returned (.int .i64 (-1)) ∧ w = w' := by
  go_enter Try.func23, Try.ntmps23
  go_wp2
  go_ret
  exact ⟨rfl, rfl⟩

/-- The numbers k, k + 1, .. -/
def marks (k : Int) (n : Nat) : List Int := (List.range n).map fun (i : Nat) => k + (i : Int)
theorem marks_length (k : Int) (n : Nat) : (marks k n).length = n := by simp [marks]
theorem marks_get (k : Int) (n i : Nat) (h : i < n) : (marks k n).getD i 0 = k + i := by simp [marks, List.getD, h]

set_option maxHeartbeats 400000 in
theorem markInt64S_any (v : Value) (xs : List Int) (B : Nat) (k : Int) (w : World) (h : Sl w B v xs) (h1 : 0 ≤ k) (h2 : k ≤ 1000000000000) (hn : xs.length ≤ 10000000) :
    Calls Try.prog 13 #[v, .int .i64 k] w fun e w' => e = .returned (.int .i64 (k + xs.length)) ∧ Sl w' B v (marks k xs.length) ∧ Below B w w' := by
  rcases h with ⟨rfl, rfl⟩ | ⟨b, off, cap, cur, rfl, hnn, hl, hm, hB, hb, hc, hx⟩
  · go_enter Try.func13, Try.ntmps13
    go_wp2
    refine wp_loop_rounds 1 ?_; rw [rounds_succ]
    go_wp2
    go_ret
    exact ⟨Base.ret_int (by simp), .inl ⟨rfl, rfl⟩, Below.refl _ _⟩
  · have HB := Lib.hid hb
    have HX := Lib.hid hx
    have HC := Lib.hid hc
    clear hb hx hc
    go_enter Try.func13, Try.ntmps13
    go_wp2
    go_loopw [1, 5] (fun kk i wr => ∃ (j : Nat) (cr : Array Value), j ≤ xs.length ∧ i = .int .i64 j ∧ kk = .int .i64 (k + j) ∧ Hid (wr.heap[b]? = some (.cells cr 2 (0, 0))) ∧ Hid (cr.size = cur.size) ∧ Hid (∀ t, t < j → cr[off + t]? = some (.int .i64 (k + (t : Int)))) ∧ Below B w wr) (fun _ i _ => xs.length - (intOf i).toNat)
    case atStart => exact ⟨0, cur, by omega, rfl, by go_num, HB.out, rfl, (fun t ht => by omega), Below.refl _ _⟩
    case round =>
      obtain ⟨j, cr, hj, rfl, rfl, HR, HS, HT, hbel⟩ := hrel
      by_cases hlt : j < xs.length
      · have hs : off + j < cr.size := by have := HS.out; have := HC.out; omega
        have hc1 : wr.cell? ⟨b, off + j, none⟩ = some (cr[off + j]'hs) := cell_of_block HR.out (Array.getElem?_eq_getElem hs)
        have hf1 : wr.frozen? ⟨b, off + j, none⟩ = false := frozen_of_row wr b (off + j) cr 2 HR.out
        have hr2 := Lib.hid (heap_setCell_same wr b (off + j) cr 2 (.int .i64 (k + j)) HR.out)
        have hb2 := hbel.setCell (p := ⟨b, off + j, none⟩) hB (.int .i64 (k + j))
        generalize cr[off + j]'hs = z at hc1
        go_wp2
        go_roundw
        case rel =>
          refine ⟨j + 1, cr.setIfInBounds (off + j) (.int .i64 (k + j)), by omega, by go_num, by go_num, hr2.out, by show _ = _; rw [Array.size_setIfInBounds]; exact HS.out, (fun t ht => ?_), hb2⟩
          by_cases e : t = j
          · subst e; rw [Array.getElem?_setIfInBounds_self_of_lt hs]
          · rw [Array.getElem?_setIfInBounds_ne (by omega)]; exact HT.out t (by omega)
        case measure => simp [intOf]; omega
      · obtain rfl : j = xs.length := by omega
        go_wp2
        go_ret
        exact ⟨rfl, .inr ⟨b, off, cap, cr, by rw [marks_length], by rw [marks_length]; exact hnn, by rw [marks_length]; exact hl, hm, hB, HR.out, by rw [HS.out]; exact HC.out, (fun i hi => by rw [marks_length] at hi; rw [HT.out i hi, marks_get _ _ _ hi])⟩, hbel⟩

set_option maxHeartbeats 400000 in
theorem heldInt64S_any (v : Value) (n : Nat) (k : Int) (w : World) (h : Rd w v (marks k n)) (h1 : 0 ≤ k) (h2 : k ≤ 1000000000000) (hn : n ≤ 10000000) :
    Calls Try.prog 15 #[v, .int .i64 k] w fun e w' => e = .returned (.int .i64 (k + n)) ∧ Below w.heap.size w w' := by
  rcases h with ⟨rfl, hz⟩ | ⟨b, off, cap, rfl, hnn, hl, hm, hbl, hx⟩
  · have hz' := congrArg List.length hz
    rw [marks_length] at hz'
    simp only [List.length_nil] at hz'
    clear hz
    subst hz'
    go_enter Try.func15, Try.ntmps15
    go_wp2
    refine wp_loop_rounds 1 ?_; rw [rounds_succ]
    go_wp2
    go_ret
    exact ⟨Base.ret_int (by simp), Below.refl _ _⟩
  · rw [marks_length] at hnn hl hx ⊢
    have HX := Lib.hid hx
    clear hx
    go_enter Try.func15, Try.ntmps15
    go_wp2
    go_loopw [1, 5] (fun kk i wr => ∃ (j q : Nat), j ≤ n ∧ i = .int .i64 j ∧ kk = .int .i64 (k + j) ∧ wr = w.drewN q) (fun _ i _ => n - (intOf i).toNat)
    case atStart => exact ⟨0, 0, by omega, rfl, by go_num, rfl⟩
    case round =>
      obtain ⟨j, q, hj, rfl, rfl, rfl⟩ := hrel
      by_cases hlt : j < n
      · have hc1 : w.cell? ⟨b, off + j, none⟩ = some (.int .i64 (k + j)) := by rw [HX.out j hlt, marks_get _ _ _ hlt]
        have hc2 : (w.drewN q).cell? ⟨b, off + j, none⟩ = some (.int .i64 (k + j)) := hc1
        have hj1 : (0 : Int) ≤ (j : Int) := by omega
        have hj2 : (j : Int) < (n : Int) := by omega
        go_wp2
        go_roundw
        case rel => exact ⟨j + 1, _, by omega, by go_num, by go_num, by first | rfl | exact World.drewN_drewN ..⟩
        case measure => simp [intOf]; omega
      · obtain rfl : j = n := by omega
        go_wp2
        go_ret
        exact ⟨rfl, bd _ _⟩

end Go.Proofs.Ytenaeehefamdmaa.Helpers
