/-
  Contract of the program's shareOut.
  Conditions: as the contract says.
-/
import Derived.Test.YtenaeehefamdmaaShareSpec
namespace Go.Proofs.Ytenaeehefamdmaa.Shares
open Go.RowKit Mem Owns Sorts Go.Sort
open Concats (Cells oneCells)
set_option linter.unusedVariables false

theorem infoInt : (Try.prog.info? 3).map (fun i => (i.zero, i.size, i.bytes)) = some (some (.int .i64 0), 1, 8) := by kernel_rfl

/-- A sum, by a walk that only reads. -/
theorem total_q (v : Value) (xs : List Int) (w : World) (h : Rd w v xs) (m : Int) (hm : 0 ≤ m) (hb : within (-m) m xs = true) (hs : m * xs.length ≤ 9000000000000000000) :
    Calls Try.prog 35 #[v] w fun e w' => e = .returned (.int .i64 xs.sum) ∧ ∃ q, w' = w.drewN q := by
  have SB := Lib.hid (sum_bd m hm xs hb)
  have WG := Lib.hid (fun i hi => within_get hb i hi)
  clear hb
  rcases h with ⟨rfl, rfl⟩ | ⟨b, off, cap, rfl, hn, hl, hc, hbl, hx⟩
  · go_enter Try.func35, Try.ntmps35
    go_wp2
    refine wp_loop_rounds 1 ?_; rw [rounds_succ]
    go_wp2
    go_ret
    exact ⟨rfl, 0, rfl⟩
  · have HX := Lib.hid hx
    clear hx
    go_enter Try.func35, Try.ntmps35
    go_wp2
    go_loopw [3, 8] (fun o i wr => ∃ (k : Nat) (s : Int) (q : Nat), k ≤ xs.length ∧ -(m * k) ≤ s ∧ s ≤ m * k ∧ i = .int .i64 k ∧ o = .int .i64 s ∧ Hid (s = (xs.take k).sum) ∧ wr = w.drewN q) (fun _ i _ => xs.length - (intOf i).toNat)
    case atStart => exact ⟨0, 0, 0, by omega, by omega, by omega, rfl, rfl, rfl, rfl⟩
    case round =>
      obtain ⟨k, s, q, hk, hs1, hs2, rfl, rfl, H, rfl⟩ := hrel
      by_cases hlt : k < xs.length
      · have hg := WG.out k hlt
        have hmk : m * k + m ≤ 9000000000000000000 := by
          have : m * ((k : Int) + 1) ≤ m * xs.length := Int.mul_le_mul_of_nonneg_left (by omega) hm
          rw [Int.mul_add, Int.mul_one] at this; omega
        have hmm : m * ((k + 1 : Nat) : Int) = m * k + m := by rw [show ((k + 1 : Nat) : Int) = (k : Int) + 1 from rfl, Int.mul_add, Int.mul_one]
        have HM := Lib.hid hmm
        clear hmm
        have ST := Lib.hid (sum_take_succ xs k hlt)
        have hc1 : (w.drewN q).cell? ⟨b, off + k, none⟩ = some (.int .i64 (xs.getD k 0)) := HX.out k hlt
        generalize xs.getD k 0 = x at *
        go_wp2
        go_roundw
        case rel => exact ⟨k + 1, s + x, _, by omega, by rw [HM.out]; omega, by rw [HM.out]; omega, by go_num, rfl, by show _ = _; rw [ST.out, ← H.out], by first | rfl | exact World.drewN_drewN ..⟩
        case measure => simp [intOf]; omega
      · obtain rfl : k = xs.length := by omega
        go_wp2
        go_ret
        exact ⟨Base.ret_int (by rw [H.out, List.take_length]), _, rfl⟩

/-- A sort changes its row's block alone. -/
theorem sw_grown {α : Type} [Inhabited α] {enc : α → Value} {w W : World} {blk off : Nat} {dk : Array α} (h : SW enc w blk off dk W) : w.grownBy W (some blk) := by
  obtain ⟨n, os, rfl⟩ := h
  refine ⟨rfl, rfl, rfl, SW.le ⟨n, os, rfl⟩, fun k hk hne => ?_⟩
  have hne' : blk ≠ k := fun e => hne (by rw [e])
  show ((w.heap.modify blk _) ++ os)[k]? = _
  rw [Array.getElem?_append_left (by simpa using hk), Array.getElem?_modify, if_neg hne']

/-- The boxes of the amount, the weights and their sum. -/
def Boxes (w : World) (q b5 : Nat) (A T : Int) (vw : Value) : Prop := w.cell? ⟨q, 0, none⟩ = some (.int .i64 A) ∧ w.cell? ⟨q + 1, 0, none⟩ = some vw ∧ w.cell? ⟨b5, 0, none⟩ = some (.int .i64 T) ∧ q + 1 < w.heap.size ∧ b5 < w.heap.size
def Off (v : Value) (q b5 : Nat) : Prop := ∀ k, v.ownBlock = some k → k ≠ q ∧ k ≠ q + 1 ∧ k ≠ b5
theorem Boxes.grown {w w' : World} {q b5 : Nat} {A T : Int} {vw v : Value} (h : Boxes w q b5 A T vw) (g : w.grownBy w' v.ownBlock) (hv : Off v q b5) : Boxes w' q b5 A T vw := by
  obtain ⟨h1, h2, h3, h4, h5⟩ := h
  exact ⟨g.cell h1 (fun e => (hv q e.symm).1 rfl), g.cell h2 (fun e => (hv (q + 1) e.symm).2.1 rfl), g.cell h3 (fun e => (hv b5 e.symm).2.2 rfl), Nat.lt_of_lt_of_le h4 g.size, Nat.lt_of_lt_of_le h5 g.size⟩
theorem Boxes.below {w w' : World} {q b5 : Nat} {A T : Int} {vw : Value} (h : Boxes w q b5 A T vw) (g : Below w.heap.size w w') : Boxes w' q b5 A T vw := by
  obtain ⟨h1, h2, h3, h4, h5⟩ := h
  exact ⟨(g.cell (p := ⟨q, 0, none⟩) (by simp; omega)).trans h1, (g.cell (p := ⟨q + 1, 0, none⟩) h4).trans h2, (g.cell (p := ⟨b5, 0, none⟩) h5).trans h3, Nat.lt_of_lt_of_le h4 g.size, Nat.lt_of_lt_of_le h5 g.size⟩
theorem Off.step {w : World} {v v' : Value} {q b5 : Nat} (h : Off v q b5) (h1 : q + 1 < w.heap.size) (h2 : b5 < w.heap.size) (ha : v'.ownBlock = v.ownBlock ∨ v'.ownBlock = some (w.heap.size + 1)) : Off v' q b5 := fun k hk => by
  rcases ha with ha | ha
  · rw [ha] at hk; exact h k hk
  · rw [ha] at hk; injection hk with hk; omega
theorem own_cap {w : World} {B e n c : Nat} {a : Option Addr} {xs : List Value} (h : w.ownsRow B e 1 (.slice a n c) n xs) : n ≤ c ∧ c ≤ 9223372036854775807 := by
  rcases h.2 with ⟨h1, h2⟩ | ⟨g, cap, cur, hv, _, _, h1, h2, _⟩
  · injection h1 with h3 h4 h5; omega
  · injection hv with h3 h4 h5; unfold maxLen at h2; omega
theorem own_base {w : World} {B C e n : Nat} {v : Value} {xs : List Value} (hC : C ≤ B) (h : w.ownsRow B e 1 v n xs) : w.ownsRow C e 1 v n xs := by
  refine ⟨h.1, ?_⟩
  rcases h.2 with h2 | ⟨g, cap, cur, hv, hg, r⟩
  · exact .inl h2
  · exact .inr ⟨g, cap, cur, hv, Nat.le_trans hC hg, r⟩
theorem two_rowsE {w w1 : World} {o : Obj} {B e e' n m : Nat} {v v' u : Value} {xs ys : List Value} (hv : w.ownsRow B e 1 v n xs) (hu : w.ownsRow B e' 1 u m ys) (hs : Sep v u) (hg : (w.alloc o).grownBy w1 v.ownBlock) (ha : v'.ownBlock = v.ownBlock ∨ v'.ownBlock = some (w.heap.size + 1)) :
    w1.ownsRow B e' 1 u m ys ∧ Sep v' u := by
  refine ⟨own_grown (own_below hu (b0 w o)) hg (fun k e1 e2 => hs k e1 e2), fun k e1 e2 => ?_⟩
  rcases ha with ha | ha
  · rw [ha] at e1; exact hs k e1 e2
  · rw [ha] at e1
    injection e1 with e1
    have := (hu.lt k e2).2
    omega
/-- The numbers below k, as cells. -/
def upTo (k : Nat) : List Value := (List.range k).map fun i => Value.int .i64 (i : Nat)
theorem upTo_succ (k : Nat) : upTo (k + 1) = upTo k ++ [.int .i64 (k : Nat)] := by simp [upTo, List.range_succ]
theorem upTo_get (k i : Nat) (h : i < k) : (upTo k)[i]? = some (.int .i64 (i : Nat)) := by simp [upTo, h]
theorem holds_upTo {w : World} {B n g c : Nat} (h : w.ownsRow B 3 1 (.slice (some ⟨g, 0, none⟩) (n + 1) c) (n + 1) (upTo (n + 1))) : Holds (encR n) w g 0 (idt n) := fun j hj => by
  rw [idt_size] at hj
  rw [Nat.zero_add, idt_get n j hj]
  exact ⟨(h.cellAt j (by omega)).trans (upTo_get _ _ hj), h.frozenAt j⟩
theorem holds_set {n : Nat} {w : World} {go gr t : Nat} {d : Array (Fin (n + 1))} {v : Value} (hne : go ≠ gr) (h : Holds (encR n) w gr 0 d) : Holds (encR n) (w.setCell ⟨go, t, none⟩ v) gr 0 d := fun i hi =>
  ⟨(World.cell?_setCell_other _ _ _ _ (by intro e; simp only [Addr.mk.injEq] at e; exact hne e.1)).trans (h i hi).1, by rw [World.frozen?_setCell]; exact (h i hi).2⟩
/-- What lies behind the first steps: two empty rows, the boxes. -/
theorem made_rows {w1 : World} {q : Nat} {A T : Int} {vw : Value} (h1 : w1.cell? ⟨q, 0, none⟩ = some (.int .i64 A)) (h2 : w1.cell? ⟨q + 1, 0, none⟩ = some vw) (h3 : q + 1 < w1.heap.size) (wL : World)
    (hL : wL = ((w1.alloc (.cells #[] 2)).alloc (.cells #[] 3)).alloc (.cells #[.int .i64 T] 2)) :
    wL.ownsRow (q + 2) 2 1 (.slice (some ⟨w1.heap.size, 0, none⟩) 0 0) 0 [] ∧ wL.ownsRow (q + 2) 3 1 (.slice (some ⟨w1.heap.size + 1, 0, none⟩) 0 0) 0 [] ∧ Boxes wL q (w1.heap.size + 1 + 1) A T vw ∧ Below w1.heap.size w1 wL := by
  have s1 : (w1.alloc (.cells #[] 2)).heap.size = w1.heap.size + 1 := by simp
  have s2 : ((w1.alloc (.cells #[] 2)).alloc (.cells #[] 3)).heap.size = w1.heap.size + 1 + 1 := by simp
  have o1 : ((w1.alloc (.cells #[] 2)).alloc (.cells #[] 3)).ownsRow (q + 2) 2 1 (.slice (some ⟨w1.heap.size, 0, none⟩) 0 0) 0 [] := own_below (World.ownsRow_made w1 #[] 0 (by omega) (by unfold maxLen; omega) rfl) (b0 _ _)
  have o2 : ((w1.alloc (.cells #[] 2)).alloc (.cells #[] 3)).ownsRow (q + 2) 3 1 (.slice (some ⟨w1.heap.size + 1, 0, none⟩) 0 0) 0 [] := by
    have := World.ownsRow_made (e := 3) (size := 1) (base := q + 2) (w1.alloc (.cells #[] 2)) #[] 0 (by rw [s1]; omega) (by unfold maxLen; omega) rfl
    rw [s1] at this
    exact this
  have g : ((w1.alloc (.cells #[] 2)).alloc (.cells #[] 3)).grownBy wL (some (w1.heap.size + 1 + 1)) := by
    rw [hL]
    exact World.grownBy_alloc _ _ _
  have k1 : Below w1.heap.size w1 ((w1.alloc (.cells #[] 2)).alloc (.cells #[] 3)) := bl (b0 _ _) (b0 _ _)
  have k2 : Below w1.heap.size w1 wL := k1.grown g (by rw [s2]; omega) (fun k hk => by injection hk with hk; omega)
  refine ⟨own_grown o1 g (fun k e1 e2 => ?_), own_grown o2 g (fun k e1 e2 => ?_), ⟨(k2.cell (p := ⟨q, 0, none⟩) (by simp; omega)).trans h1, (k2.cell (p := ⟨q + 1, 0, none⟩) h3).trans h2, ?_, Nat.lt_of_lt_of_le h3 k2.size, ?_⟩, k2⟩
  · injection e1 with e1; simp [Value.ownBlock] at e2; omega
  · injection e1 with e1; simp [Value.ownBlock] at e2; omega
  · rw [hL]
    have hh := heap_alloc_new ((w1.alloc (.cells #[] 2)).alloc (.cells #[] 3)) (.cells #[.int .i64 T] 2)
    rw [s2] at hh
    exact Mem.cell_of_block (j := 0) hh rfl
  · rw [hL]; simp
/-- What the program's shareOut returns: the shares by an order of the rests. -/
def ShareOne (A : Int) (ws : List Int) (n : Nat) (w : World) (e : Ending) (w' : World) : Prop := ∃ (u : Value) (d : Array (Fin (n + 1))), e = .returned u ∧ Valid A ws.sum ws n d ∧ Sl w' w.heap.size u (outK (qL A ws.sum ws) d (A - (qL A ws.sum ws).sum).toNat) ∧ Below w.heap.size w w'
end Go.Proofs.Ytenaeehefamdmaa.Shares
