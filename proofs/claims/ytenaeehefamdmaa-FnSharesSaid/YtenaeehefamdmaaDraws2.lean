/-
  Contracts of the reference's draws: the source (l01From), one of a list (l01Pick), money (l01DrawMoney).
  Conditions: the code has at most 4096 bytes. What is drawn is some number in a range: no more is said.
-/
import Derived.Test.YtenaeehefamdmaaDraws
import Derived.StillTailTactics
namespace Go.Proofs.Ytenaeehefamdmaa.Draws
open Go.RowKit Mem
set_option linter.unusedVariables false

def Made (w : World) (e : Ending) (w' : World) : Prop := ∃ p, e = .returned (.pointer (some ⟨p, 0, none⟩)) ∧ w.heap.size ≤ p ∧ Src w' p ∧ Below w.heap.size w w'

theorem bytes_of_row {w : World} {a : Option Addr} {len cap : Nat} {zs : List Int} (h : IsRow .u8 w a len cap zs) (p : Nat) (hp : w.heap.size ≤ p) : Bytes w p a len := by
  intro i hi
  rcases h with ⟨rfl, rfl, rfl, rfl⟩ | ⟨x, rfl, hl, hm, hz, hc, hw⟩
  · omega
  · obtain ⟨b, off, spot⟩ := x
    have c0 := hc 0 (by omega)
    have hs : spot = none := by simpa [Addr.add] using World.cell?_spot c0
    subst hs
    have hb : b < w.heap.size := World.block_lt_of_cell? w _ c0
    have ci := hc i (by omega)
    rw [show (⟨b, off, none⟩ : Addr).add i = ⟨b, off + i, none⟩ from by by_cases e : i = 0 <;> simp [Addr.add, e]] at ci
    have hx := hw (zs.getD i 0) (by rw [getD_lt (by omega)]; exact List.getElem_mem (by omega))
    have hx2 : 0 ≤ zs.getD i 0 ∧ zs.getD i 0 ≤ 255 := by
      exact bounds_u8 hx
    exact ⟨b, off, _, rfl, by omega, hx2.1, hx2.2, ci⟩

theorem src_step {w : World} {p len cap at' : Nat} {a : Option Addr} {seed : Int} (hp : w.heap[p]? = some (.cells #[.slice a len cap, .int .i64 at', .int .i64 seed] 67 (0, 0))) (hb : Bytes w p a len) (s : Int) :
    (w.setCell ⟨p, 2, none⟩ (.int .i64 s)).drew.heap[p]? = some (.cells #[.slice a len cap, .int .i64 at', .int .i64 s] 67 (0, 0)) ∧ w.grownBy (w.setCell ⟨p, 2, none⟩ (.int .i64 s)).drew (some p) ∧ Bytes (w.setCell ⟨p, 2, none⟩ (.int .i64 s)).drew p a len := by
  have g := grown_trans (grown_set w p 2 (.int .i64 s)) (grown_drewN _ 1 _)
  exact ⟨heap_setCell_same w p 2 _ _ (.int .i64 s) hp, g, hb.grown g⟩

/-- One of a list was drawn. -/
def Picked (p : Nat) (P : Int → Prop) (w : World) (e : Ending) (w' : World) : Prop := ∃ x : Int, e = .returned (.int .i64 x) ∧ P x ∧ Src w' p ∧ w.grownBy w' (some p)

set_option maxHeartbeats 1000000 in
set_option maxRecDepth 100000 in
theorem from_any (a : Option Addr) (len cap : Nat) (zs : List Int) (w : World) (h : IsRow .u8 w a len cap zs) (hl : len ≤ 4096) :
    Calls Try.prog 37 #[.slice a len cap] w (Made w) := by
  have HB := Lib.hid (bytes_of_row h w.heap.size (Nat.le_refl _))
  clear h
  go_enter Try.func37, Try.ntmps37
  go_wp2
  go_loopw [4] (fun i wr => ∃ (k : Nat) (s : Int), k ≤ len ∧ i = .int .i64 k ∧ 0 ≤ s ∧ s ≤ 2147483646 ∧ Hid (wr.heap[w.heap.size]? = some (.cells #[.slice a len cap, .int .i64 (0 : Nat), .int .i64 s] 67 (0, 0))) ∧ Below w.heap.size w wr ∧ Bytes wr w.heap.size a len) (fun i _ => len - (intOf i).toNat)
  case atStart => exact ⟨0, 25001, by omega, rfl, by omega, by omega, heap_alloc_new w _, b0 _ _, HB.out.grown (grown_of_below (b0 _ _) _)⟩
  case round =>
    obtain ⟨k, s, hk, rfl, s1, s2, HP, hb, hby⟩ := hrel
    by_cases hlt : k < len ∧ k < 64
    · obtain ⟨q1, q2⟩ := hlt
      obtain ⟨b, off, x, rfl, bp, x0, x1, hc⟩ := hby k q1
      have b1 : ¬ b = w.heap.size := by omega
      have b3 : ¬ w.heap.size = b := by omega
      have c2 : wr.cell? ⟨w.heap.size, 2, none⟩ = some (.int .i64 s) := cell_of_block HP.out rfl
      have f2 := frozen_of_row wr w.heap.size 2 _ _ HP.out
      have hz : 0 ≤ (s * 71 + x) % 2147483647 ∧ (s * 71 + x) % 2147483647 ≤ 2147483646 := by omega
      have HA := Lib.hid (src_step HP.out hby ((s * 71 + x) % 2147483647))
      have HZ := Lib.hid hz
      have HBW := Lib.hid hb
      have hck : ((k : Int) < (len : Int)) := by omega
      clear hby hz hb
      go_wp2
      go_still_tail 15, (by kernel_rfl)
      change wpList _ _ _ _ _ wr.drew
      go_wp2
      go_roundw
      case rel => exact ⟨k + 1, _, by omega, by go_num, HZ.out.1, HZ.out.2, HA.out.1, grown_below HBW.out (Nat.le_refl _) HBW.out.size HA.out.2.1, HA.out.2.2⟩
      case measure => simp [intOf]; omega
    · have hc : (len : Int) ≤ (k : Int) ∨ ((k : Int) < (len : Int) ∧ (64 : Int) ≤ (k : Int)) := by omega
      have HS : Hid (Src wr w.heap.size) := ⟨a, len, cap, 0, s, HP.out, by omega, hl, s1, s2, hby⟩
      clear hlt hby
      rcases hc with hc | ⟨hc, hd⟩
      all_goals
        go_wp2
        go_ret
        exact ⟨_, rfl, Nat.le_refl _, HS.out, hb⟩

set_option maxHeartbeats 400000 in
theorem pick_any (p b o n c : Nat) (P : Int → Prop) (w : World) (h : Src w p) (hbp : b ≠ p) (hn : 1 ≤ n) (hn2 : n ≤ 1000) (hc : ∀ i, i < n → ∃ x, w.cell? ⟨b, o + i, none⟩ = some (.int .i64 x) ∧ P x) :
    Calls Try.prog 39 #[.pointer (some ⟨p, 0, none⟩), .slice (some ⟨b, o, none⟩) n c] w (Picked p P w) := by
  have HC := Lib.hid hc
  have HN := Lib.hid (next_any p n w h (by omega))
  clear hc h
  go_enter Try.func39, Try.ntmps39
  go_wp2_with fail
  refine HN.out.mono ?_; rintro e w1 ⟨x, rfl, x0, x1, hs, hg⟩
  obtain ⟨j, rfl⟩ : ∃ j : Nat, x = j := ⟨x.toNat, by omega⟩
  have hj : j < n := by omega
  obtain ⟨y, hy, hp⟩ := HC.out j hj
  have hcell : w1.cell? ⟨b, o + j, none⟩ = some (.int .i64 y) := hg.cell hy (by simpa using hbp)
  have HS := Lib.hid hs
  have HG := Lib.hid hg
  have HP := Lib.hid hp
  clear hs hg hp hy
  go_wp2
  go_ret
  exact ⟨y, rfl, HP.out, HS.out, HG.out⟩

/-- A row of bytes that came in still reads the same. -/
theorem row_below {k : IntKind} {w w' : World} {a : Option Addr} {len cap : Nat} {zs : List Int} (h : IsRow k w a len cap zs) (g : Below w.heap.size w w') : IsRow k w' a len cap zs := by
  rcases h with h | ⟨x, ha, hl, hm, hz, hc, hw⟩
  · exact .inl h
  · exact .inr ⟨x, ha, hl, hm, hz, fun i hi => (g.cell (World.block_lt_of_cell? w _ (hc i hi))).trans (hc i hi), hw⟩
end Go.Proofs.Ytenaeehefamdmaa.Draws
