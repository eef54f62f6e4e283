/-
  Contracts of the laws' likeInts (two equal lists) and sum.
  Conditions: the slices read as lists (Mem.Rd).
-/
import Derived.Test.YtenaeehefamdmaaLists
namespace Go.Proofs.Ytenaeehefamdmaa.Likes
open Go.RowKit Mem
set_option linter.unusedVariables false

set_option maxHeartbeats 400000 in
theorem likeInts_yes (v u : Value) (xs : List Int) (w : World) (h : Rd w v xs) (g : Rd w u xs) :
    Calls Try.prog 21 #[v, u] w fun e w' => e = .returned (.bool true) ∧ Below w.heap.size w w' := by
  by_cases h0 : xs = []
  · subst h0
    have hv : ∃ a c, v = .slice a 0 c := by
      rcases h with ⟨rfl, _⟩ | ⟨b, off, cap, rfl, _⟩
      · exact ⟨_, _, rfl⟩
      · exact ⟨_, _, rfl⟩
    have hu : ∃ a c, u = .slice a 0 c := by
      rcases g with ⟨rfl, _⟩ | ⟨b, off, cap, rfl, _⟩
      · exact ⟨_, _, rfl⟩
      · exact ⟨_, _, rfl⟩
    clear h g
    obtain ⟨a1, c1, rfl⟩ := hv
    obtain ⟨a2, c2, rfl⟩ := hu
    go_enter Try.func21, Try.ntmps21
    go_wp2
    refine wp_loop_rounds 1 ?_; rw [rounds_succ]
    go_wp2
    go_ret
    exact ⟨rfl, Below.refl _ _⟩
  · have hpos : 0 < xs.length := List.length_pos_iff.2 h0
    clear h0
    rcases h with ⟨rfl, rfl⟩ | ⟨b, off, cap, rfl, hn, hln, hc, hbl, hx⟩
    · simp at hpos
    rcases g with ⟨rfl, rfl⟩ | ⟨b2, off2, cap2, rfl, hn2, hln2, hc2, hbl2, hx2⟩
    · simp at hpos
    have HX := Lib.hid hx
    have HX2 := Lib.hid hx2
    clear hx hx2
    go_enter Try.func21, Try.ntmps21
    go_wp2
    go_loopw [5] (fun i wr => ∃ (k q : Nat), k ≤ xs.length ∧ i = .int .i64 k ∧ wr = w.drewN q) (fun i _ => xs.length - (intOf i).toNat)
    case atStart => exact ⟨0, 0, by omega, rfl, rfl⟩
    case round =>
      obtain ⟨k, q, hk, rfl, rfl⟩ := hrel
      by_cases hlt : k < xs.length
      · have hc1 : (w.drewN q).cell? ⟨b, off + k, none⟩ = some (.int .i64 (xs.getD k 0)) := HX.out k hlt
        have hc2 : (w.drewN q).cell? ⟨b2, off2 + k, none⟩ = some (.int .i64 (xs.getD k 0)) := HX2.out k hlt
        have hc3 : w.cell? ⟨b, off + k, none⟩ = some (.int .i64 (xs.getD k 0)) := HX.out k hlt
        have hc4 : w.cell? ⟨b2, off2 + k, none⟩ = some (.int .i64 (xs.getD k 0)) := HX2.out k hlt
        have hki : (0 : Int) ≤ (k : Int) ∧ (k : Int) < (xs.length : Int) := by omega
        obtain ⟨hki1, hki2⟩ := hki
        generalize xs.getD k 0 = x at hc1 hc2 hc3 hc4
        go_wp2
        go_quiet (fail)
        go_wp2
        go_roundw
        case rel => exact ⟨k + 1, _, by omega, by go_num, by first | rfl | exact World.drewN_drewN ..⟩
        case measure => simp [intOf]; omega
      · obtain rfl : k = xs.length := by omega
        go_wp2
        go_ret
        exact ⟨rfl, bd _ _⟩

theorem sum_any (v : Value) (xs : List Int) (w : World) (h : Rd w v xs) (m : Int) (hm : 0 ≤ m) (hb : within (-m) m xs = true) (hs : m * xs.length ≤ 9000000000000000000) :
    Calls Try.prog 22 #[v] w fun e w' => e = .returned (.int .i64 xs.sum) ∧ Below w.heap.size w w' := by
  have WG := Lib.hid (fun i hi => within_get hb i hi)
  clear hb
  rcases h with ⟨rfl, rfl⟩ | ⟨b, off, cap, rfl, hn, hl, hc, hbl, hx⟩
  · go_enter Try.func22, Try.ntmps22
    go_wp2
    refine wp_loop_rounds 1 ?_; rw [rounds_succ]
    go_wp2
    go_ret
    exact ⟨rfl, Below.refl _ _⟩
  · have HX := Lib.hid hx
    clear hx
    go_enter Try.func22, Try.ntmps22
    go_wp2
    go_loopw [3, 4] (fun o i wr => ∃ (k : Nat) (s : Int) (q : Nat), k ≤ xs.length ∧ -(m * k) ≤ s ∧ s ≤ m * k ∧ i = .int .i64 k ∧ o = .int .i64 s ∧ Hid (s = (xs.take k).sum) ∧ wr = w.drewN q) (fun _ i _ => xs.length - (intOf i).toNat)
    case atStart => exact ⟨0, 0, 0, by omega, by omega, by omega, rfl, rfl, rfl, rfl⟩
    case round =>
      obtain ⟨k, s, q, hk, hs1, hs2, rfl, rfl, H, rfl⟩ := hrel
      by_cases hlt : k < xs.length
      · have hg := WG.out k hlt
        have hmk : m * k + m ≤ 9000000000000000000 := by
          have : m * ((k : Int) + 1) ≤ m * xs.length := Int.mul_le_mul_of_nonneg_left (by omega) hm
          rw [Int.mul_add, Int.mul_one] at this; omega
        have hmm : m * ((k + 1 : Nat) : Int) = m * k + m := by rw [show ((k + 1 : Nat) : Int) = (k : Int) + 1 from rfl, Int.mul_add, Int.mul_one]
        have HM := Lib.hid hmm
        clear hmm
        have ST := Lib.hid (sum_take_succ xs k hlt)
        have hc1 : (w.drewN q).cell? ⟨b, off + k, none⟩ = some (.int .i64 (xs.getD k 0)) := HX.out k hlt
        generalize xs.getD k 0 = x at *
        go_wp2
        go_roundw
        case rel => exact ⟨k + 1, s + x, _, by omega, by rw [HM.out]; omega, by rw [HM.out]; omega, by go_num, rfl, by show _ = _; rw [ST.out, ← H.out], by first | rfl | exact World.drewN_drewN ..⟩
        case measure => simp [intOf]; omega
      · obtain rfl : k = xs.length := by omega
        go_wp2
        go_ret
        exact ⟨Base.ret_int (by rw [H.out, List.take_length]), bd _ _⟩

end Go.Proofs.Ytenaeehefamdmaa.Likes
