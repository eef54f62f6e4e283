/-
  Contracts of the laws' marks on tables, told by which block they change.
  Conditions: the slice is free to be written (Sl).
-/
import Derived.Test.YtenaeehefamdmaaTables
import Derived.OwnWalk
namespace Go.Proofs.Ytenaeehefamdmaa.Marks
open Go.RowKit Mem Helpers
set_option linter.unusedVariables false

theorem gtrans {a b c : World} {r : Option Nat} (h : a.grownBy b r) (k : b.grownBy c r) : a.grownBy c r :=
  ⟨k.os.trans h.os, k.tape.trans h.tape, k.output.trans h.output, Nat.le_trans h.size k.size, fun i hi hr => (k.block i (Nat.lt_of_lt_of_le hi h.size) hr).trans (h.block i hi hr)⟩
theorem gset (w : World) (p o : Nat) (v : Value) : w.grownBy (w.setCell ⟨p, o, none⟩ v) (some p) := by
  have k : Below (0 : Nat) w (w.setCell ⟨p, o, none⟩ v) := (Below.refl 0 w).setCell (Nat.zero_le _) v
  exact ⟨k.os, k.tape, k.output, k.size, fun i hi hr => Below.heap_setCell w ⟨p, o, none⟩ v i (fun e => hr (by rw [e]))⟩
theorem sl_own {w : World} {B : Nat} {v : Value} {xs : List Int} (h : Sl w B v xs) : ∀ k, v.ownBlock = some k → B ≤ k ∧ k < w.heap.size := fun k hk => by
  rcases h with ⟨rfl, _⟩ | ⟨b, off, cap, cur, rfl, _, _, _, hB, hb, _⟩
  · cases hk
  · injection hk with hk; subst hk; exact ⟨hB, lt_of_get hb⟩
theorem grown_bel {B : Nat} {w w' : World} {v : Value} {xs : List Int} (hB : B ≤ w.heap.size) (h : Sl w B v xs) (g : w.grownBy w' v.ownBlock) : Below B w w' :=
  (Below.refl B w).grown g hB fun k hk => (sl_own h k hk).1
/-- A block of two cells that is not the row's. -/
theorem box_grown {w w' : World} {q : Nat} {x y : Value} {r : Option Nat} (h : Box2 w q x y) (g : w.grownBy w' r) (hne : r ≠ some q) : Box2 w' q x y :=
  ⟨g.cell h.1 (fun e => hne e.symm), g.cell h.2.1 (fun e => hne e.symm), Nat.lt_of_lt_of_le h.2.2 g.size⟩
theorem rd_grown {w w' : World} {v : Value} {xs : List Int} {r : Option Nat} (h : Rd w v xs) (g : w.grownBy w' r) (hne : ∀ k, r = some k → v.ownBlock = some k → False) : Rd w' v xs := by
  rcases h with h | ⟨b, off, cap, rfl, hn, hl, hm, hb, hx⟩
  · exact .inl h
  · exact .inr ⟨b, off, cap, rfl, hn, hl, hm, Nat.lt_of_lt_of_le hb g.size, fun i hi => g.cell (a := ⟨b, off + i, none⟩) (hx i hi) (fun e => hne b e.symm rfl)⟩
theorem sl_grown {w w' : World} {B : Nat} {v : Value} {xs : List Int} {r : Option Nat} (h : Sl w B v xs) (g : w.grownBy w' r) (hne : ∀ k, r = some k → v.ownBlock = some k → False) : Sl w' B v xs := by
  rcases h with h | ⟨b, off, cap, cur, rfl, hn, hl, hm, hB, hb, hx⟩
  · exact .inl h
  · exact .inr ⟨b, off, cap, cur, rfl, hn, hl, hm, hB, (g.block b (lt_of_get hb) (fun e => hne b e.symm rfl)).trans hb, hx⟩
set_option maxHeartbeats 400000 in
theorem markInt64S_g (v : Value) (xs : List Int) (B : Nat) (k : Int) (w : World) (h : Sl w B v xs) (h1 : 0 ≤ k) (h2 : k ≤ 1000000000000) (hn : xs.length ≤ 10000000) :
    Calls Try.prog 13 #[v, .int .i64 k] w fun e w' => e = .returned (.int .i64 (k + xs.length)) ∧ Sl w' B v (marks k xs.length) ∧ w.grownBy w' v.ownBlock := by
  rcases h with ⟨rfl, rfl⟩ | ⟨b, off, cap, cur, rfl, hnn, hl, hm, hB, hb, hc, hx⟩
  · go_enter Try.func13, Try.ntmps13
    go_wp2
    refine wp_loop_rounds 1 ?_; rw [rounds_succ]
    go_wp2
    go_ret
    exact ⟨Base.ret_int (by simp), .inl ⟨rfl, rfl⟩, World.grownBy.refl _ _⟩
  · have HB := Lib.hid hb
    have HX := Lib.hid hx
    have HC := Lib.hid hc
    clear hb hx hc
    go_enter Try.func13, Try.ntmps13
    go_wp2
    go_loopw [1, 5] (fun kk i wr => ∃ (j : Nat) (cr : Array Value), j ≤ xs.length ∧ i = .int .i64 j ∧ kk = .int .i64 (k + j) ∧ Hid (wr.heap[b]? = some (.cells cr 2 (0, 0))) ∧ Hid (cr.size = cur.size) ∧ Hid (∀ t, t < j → cr[off + t]? = some (.int .i64 (k + (t : Int)))) ∧ w.grownBy wr (some b)) (fun _ i _ => xs.length - (intOf i).toNat)
    case atStart => exact ⟨0, cur, by omega, rfl, by go_num, HB.out, rfl, (fun t ht => by omega), World.grownBy.refl _ _⟩
    case round =>
      obtain ⟨j, cr, hj, rfl, rfl, HR, HS, HT, hbel⟩ := hrel
      by_cases hlt : j < xs.length
      · have hs : off + j < cr.size := by have := HS.out; have := HC.out; omega
        have hc1 : wr.cell? ⟨b, off + j, none⟩ = some (cr[off + j]'hs) := cell_of_block HR.out (Array.getElem?_eq_getElem hs)
        have hf1 : wr.frozen? ⟨b, off + j, none⟩ = false := frozen_of_row wr b (off + j) cr 2 HR.out
        have hr2 := Lib.hid (heap_setCell_same wr b (off + j) cr 2 (.int .i64 (k + j)) HR.out)
        have hb2 := gtrans hbel (gset wr b (off + j) (.int .i64 (k + j)))
        generalize cr[off + j]'hs = z at hc1
        go_wp2
        go_roundw
        case rel =>
          refine ⟨j + 1, cr.setIfInBounds (off + j) (.int .i64 (k + j)), by omega, by go_num, by go_num, hr2.out, by show _ = _; rw [Array.size_setIfInBounds]; exact HS.out, (fun t ht => ?_), hb2⟩
          by_cases e : t = j
          · subst e; rw [Array.getElem?_setIfInBounds_self_of_lt hs]
          · rw [Array.getElem?_setIfInBounds_ne (by omega)]; exact HT.out t (by omega)
        case measure => simp [intOf]; omega
      · obtain rfl : j = xs.length := by omega
        go_wp2
        go_ret
        exact ⟨rfl, .inr ⟨b, off, cap, cr, by rw [marks_length], by rw [marks_length]; exact hnn, by rw [marks_length]; exact hl, hm, hB, HR.out, by rw [HS.out]; exact HC.out, (fun i hi => by rw [marks_length] at hi; rw [HT.out i hi, marks_get _ _ _ hi])⟩, hbel⟩

end Go.Proofs.Ytenaeehefamdmaa.Marks
