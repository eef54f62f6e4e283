/-
  Contracts of small functions that read a slice of int64: sums, tests of a range, comparison.
  Conditions: the slice reads as a list (Mem.Rd); sums: all numbers are small enough.
-/
import Derived.Test.YtkbdjhagmdaelaaMem
namespace Go.Proofs.Ytkbdjhagmdaelaa.Lists
open Go.RowKit Mem
set_option linter.unusedVariables false

theorem total_any (v : Value) (xs : List Int) (w : World) (h : Rd w v xs) (m : Int) (hm : 0 ≤ m) (hb : within (-m) m xs = true) (hs : m * xs.length ≤ 9000000000000000000) :
    Calls Try.prog 42 #[v] w fun e w' => e = .returned (.int .i64 xs.sum) ∧ Below w.heap.size w w' := by
  have SB := Lib.hid (sum_bd m hm xs hb)
  have WG := Lib.hid (fun i hi => within_get hb i hi)
  clear hb
  rcases h with ⟨rfl, rfl⟩ | ⟨b, off, cap, rfl, hn, hl, hc, hbl, hx⟩
  · go_enter Try.func42, Try.ntmps42
    go_wp2
    refine wp_loop_rounds 1 ?_; rw [rounds_succ]
    go_wp2
    go_ret
    exact ⟨rfl, Below.refl _ _⟩
  · have HX := Lib.hid hx
    clear hx
    go_enter Try.func42, Try.ntmps42
    go_wp2
    go_loopw [3, 8] (fun o i wr => ∃ (k : Nat) (s : Int) (q : Nat), k ≤ xs.length ∧ -(m * k) ≤ s ∧ s ≤ m * k ∧ i = .int .i64 k ∧ o = .int .i64 s ∧ Hid (s = (xs.take k).sum) ∧ wr = w.drewN q) (fun _ i _ => xs.length - (intOf i).toNat)
    case atStart => exact ⟨0, 0, 0, by omega, by omega, by omega, rfl, rfl, rfl, rfl⟩
    case round =>
      obtain ⟨k, s, q, hk, hs1, hs2, rfl, rfl, H, rfl⟩ := hrel
      by_cases hlt : k < xs.length
      · have hg := WG.out k hlt
        have hmk : m * k + m ≤ 9000000000000000000 := by
          have : m * ((k : Int) + 1) ≤ m * xs.length := Int.mul_le_mul_of_nonneg_left (by omega) hm
          rw [Int.mul_add, Int.mul_one] at this; omega
        have hmm : m * ((k + 1 : Nat) : Int) = m * k + m := by rw [show ((k + 1 : Nat) : Int) = (k : Int) + 1 from rfl, Int.mul_add, Int.mul_one]
        have HM := Lib.hid hmm
        clear hmm
        have ST := Lib.hid (sum_take_succ xs k hlt)
        have hc1 : (w.drewN q).cell? ⟨b, off + k, none⟩ = some (.int .i64 (xs.getD k 0)) := HX.out k hlt
        generalize xs.getD k 0 = x at *
        go_wp2
        go_roundw
        case rel => exact ⟨k + 1, s + x, _, by omega, by rw [HM.out]; omega, by rw [HM.out]; omega, by go_num, rfl, by show _ = _; rw [ST.out, ← H.out], by first | rfl | exact World.drewN_drewN ..⟩
        case measure => simp [intOf]; omega
      · obtain rfl : k = xs.length := by omega
        go_wp2
        go_ret
        exact ⟨Base.ret_int (by rw [H.out, List.take_length]), bd _ _⟩

end Go.Proofs.Ytkbdjhagmdaelaa.Lists
