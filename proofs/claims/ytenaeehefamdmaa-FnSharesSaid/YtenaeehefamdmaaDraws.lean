/-
  Contracts of the reference's draws: a source of numbers (l01From), its next number (l01Next), one of a list (l01Pick), money (l01DrawMoney).
  Conditions: the code has at most 4096 bytes. What is drawn is some number in a range: no more is said.
-/
import Derived.Test.YtenaeehefamdmaaMem
namespace Go.Proofs.Ytenaeehefamdmaa.Draws
open Go.RowKit Mem
set_option linter.unusedVariables false

def I64 (x : Int) : Prop := -9223372036854775808 ≤ x ∧ x ≤ 9223372036854775807

/-! What a call changes: block p, and what is new -/
theorem grown_refl (w : World) (r : Option Nat) : w.grownBy w r := ⟨rfl, rfl, rfl, Nat.le_refl _, fun _ _ _ => rfl⟩
theorem grown_trans {a b c : World} {r : Option Nat} (h : a.grownBy b r) (k : b.grownBy c r) : a.grownBy c r :=
  ⟨k.os.trans h.os, k.tape.trans h.tape, k.output.trans h.output, Nat.le_trans h.size k.size, fun i hi hr => (k.block i (Nat.lt_of_lt_of_le hi h.size) hr).trans (h.block i hi hr)⟩
theorem grown_set (w : World) (p o : Nat) (v : Value) : w.grownBy (w.setCell ⟨p, o, none⟩ v) (some p) := by
  have k : Below (0 : Nat) w (w.setCell ⟨p, o, none⟩ v) := (Below.refl 0 w).setCell (Nat.zero_le _) v
  exact ⟨k.os, k.tape, k.output, k.size, fun i hi hr => Below.heap_setCell w ⟨p, o, none⟩ v i (fun e => hr (by rw [e]))⟩
theorem grown_drewN (w : World) (n : Nat) (r : Option Nat) : w.grownBy (w.drewN n) r := ⟨rfl, rfl, rfl, Nat.le_refl _, fun _ _ _ => rfl⟩
theorem grown_below {B : Nat} {a b c : World} {p : Nat} (h : Below B a b) (hB : B ≤ p) (hs : B ≤ b.heap.size) (k : b.grownBy c (some p)) : Below B a c :=
  h.grown k hs (fun k hk => by injection hk with e; subst e; exact hB)
theorem grown_of_below {w w' : World} (h : Below w.heap.size w w') (r : Option Nat) : w.grownBy w' r := ⟨h.os, h.tape, h.output, h.size, fun i hi _ => h.block i hi⟩

/-- The bytes of a code, from a place on. -/
def Bytes (w : World) (p : Nat) (a : Option Addr) (len : Nat) : Prop :=
  ∀ i, i < len → ∃ b off x, a = some ⟨b, off, none⟩ ∧ b < p ∧ 0 ≤ x ∧ x ≤ 255 ∧ w.cell? ⟨b, off + i, none⟩ = some (.int .u8 x)
theorem Bytes.grown {w w' : World} {p : Nat} {a : Option Addr} {len : Nat} (h : Bytes w p a len) (g : w.grownBy w' (some p)) : Bytes w' p a len := by
  intro i hi
  obtain ⟨b, off, x, ha, hb, h0, h1, hc⟩ := h i hi
  exact ⟨b, off, x, ha, hb, h0, h1, (World.cell?_of_block (w := w) (w' := w') (a := ⟨b, off + i, none⟩) (g.block b (World.block_lt_of_cell? w _ hc) (by simp; omega))).trans hc⟩

/-- The source that lies in block p. -/
def Src (w : World) (p : Nat) : Prop :=
  ∃ (a : Option Addr) (len cap at' : Nat) (seed : Int), w.heap[p]? = some (.cells #[.slice a len cap, .int .i64 at', .int .i64 seed] 67 (0, 0)) ∧ at' ≤ len ∧ len ≤ 4096 ∧ 0 ≤ seed ∧ seed ≤ 2147483646 ∧ Bytes w p a len
theorem Src.lt {w : World} {p : Nat} (h : Src w p) : p < w.heap.size := by
  obtain ⟨a, len, cap, at', seed, hp, _⟩ := h; exact lt_of_get hp
theorem Src.below {w w' : World} {p : Nat} (h : Src w p) (g : Below w.heap.size w w') : Src w' p := by
  obtain ⟨a, len, cap, at', seed, hp, h1, h2, h3, h4, hb⟩ := h
  exact ⟨a, len, cap, at', seed, (g.block p (lt_of_get hp)).trans hp, h1, h2, h3, h4, hb.grown (grown_of_below g _)⟩

/-- The source stands if no block up to it was written. -/
theorem Src.keep {w w' : World} {p : Nat} (h : Src w p) (g : ∀ k, k ≤ p → w'.heap[k]? = w.heap[k]?) : Src w' p := by
  obtain ⟨a, len, cap, at', seed, hp, h1, h2, h3, h4, hb⟩ := h
  refine ⟨a, len, cap, at', seed, (g p (Nat.le_refl _)).trans hp, h1, h2, h3, h4, fun i hi => ?_⟩
  obtain ⟨b, off, x, ha, hb, h0, h1, hc⟩ := hb i hi
  exact ⟨b, off, x, ha, hb, h0, h1, (World.cell?_of_block (w := w) (w' := w') (a := ⟨b, off + i, none⟩) (g b (by omega))).trans hc⟩
theorem Src.drewN {w : World} {p : Nat} (h : Src w p) (n : Nat) : Src (w.drewN n) p := h
theorem src_seed {w : World} {p : Nat} {a : Option Addr} {len cap at' : Nat} {seed s : Int} (hp : w.heap[p]? = some (.cells #[.slice a len cap, .int .i64 at', .int .i64 seed] 67 (0, 0)))
    (hb : Bytes w p a len) (i1 : at' ≤ len) (i2 : len ≤ 4096) (s1 : 0 ≤ s) (s2 : s ≤ 2147483646) : Src (w.setCell ⟨p, 2, none⟩ (.int .i64 s)) p ∧ w.grownBy (w.setCell ⟨p, 2, none⟩ (.int .i64 s)) (some p) := by
  have g := grown_set w p 2 (.int .i64 s)
  exact ⟨⟨a, len, cap, at', s, heap_setCell_same w p 2 _ _ (.int .i64 s) hp, i1, i2, s1, s2, hb.grown g⟩, g⟩
theorem src_at {w : World} {p : Nat} {a : Option Addr} {len cap at' : Nat} {seed s : Int} (m : Nat) (hp : w.heap[p]? = some (.cells #[.slice a len cap, .int .i64 at', .int .i64 seed] 67 (0, 0)))
    (hb : Bytes w p a len) (i1 : at' < len) (i2 : len ≤ 4096) (s1 : 0 ≤ s) (s2 : s ≤ 2147483646) :
    Src (((w.setCell ⟨p, 2, none⟩ (.int .i64 s)).drewN m).setCell ⟨p, 1, none⟩ (.int .i64 (at' + 1))) p ∧ w.grownBy (((w.setCell ⟨p, 2, none⟩ (.int .i64 s)).drewN m).setCell ⟨p, 1, none⟩ (.int .i64 (at' + 1))) (some p) := by
  have g1 := grown_set w p 2 (.int .i64 s)
  have e1 := heap_setCell_same w p 2 _ _ (.int .i64 s) hp
  have g2 := grown_set ((w.setCell ⟨p, 2, none⟩ (.int .i64 s)).drewN m) p 1 (.int .i64 (at' + 1))
  have e2 := heap_setCell_same ((w.setCell ⟨p, 2, none⟩ (.int .i64 s)).drewN m) p 1 _ _ (.int .i64 (at' + 1)) e1
  have g := grown_trans (grown_trans g1 (grown_drewN _ m _)) g2
  exact ⟨⟨a, len, cap, at' + 1, s, e2, by omega, i2, s1, s2, hb.grown g⟩, g⟩

/-- A number was drawn. -/
def Drawn (p : Nat) (n : Int) (w : World) (e : Ending) (w' : World) : Prop := ∃ x : Int, e = .returned (.int .i64 x) ∧ 0 ≤ x ∧ (x < n ∨ x = 0) ∧ Src w' p ∧ w.grownBy w' (some p)

set_option maxHeartbeats 1000000 in
theorem next_any (p : Nat) (n : Int) (w : World) (h : Src w p) (hn : n ≤ 9223372036854775807) :
    Calls Try.prog 38 #[.pointer (some ⟨p, 0, none⟩), .int .i64 n] w (Drawn p n w) := by
  by_cases h1 : n ≤ 1
  · have H := Lib.hid h
    clear h
    go_enter Try.func38, Try.ntmps38
    go_wp2
    go_ret
    exact ⟨0, rfl, by omega, .inr rfl, H.out, grown_refl _ _⟩
  obtain ⟨a, len, cap, at', seed, hp, i1, i2, s1, s2, hb⟩ := h
  have c0 : w.cell? ⟨p, 0, none⟩ = some (.slice a len cap) := cell_of_block hp rfl
  have c1 : w.cell? ⟨p, 1, none⟩ = some (.int .i64 at') := cell_of_block hp rfl
  have c2 : w.cell? ⟨p, 2, none⟩ = some (.int .i64 seed) := cell_of_block hp rfl
  have f1 := frozen_of_row w p 1 _ _ hp
  have f2 := frozen_of_row w p 2 _ _ hp
  have HP := Lib.hid hp
  have HB := Lib.hid hb
  clear hp hb
  by_cases h2 : at' < len
  · obtain ⟨b, off, x, rfl, b0, x0, x1, hc⟩ := HB.out at' h2
    have b1 : ¬ b = p := by omega
    have b3 : ¬ p = b := by omega
    have hz : 0 ≤ (seed * 48271 + 71) % 2147483647 ∧ (seed * 48271 + 71) % 2147483647 ≤ 2147483646 := by omega
    have hm : ∀ y : Int, 0 ≤ y % n ∧ y % n < n := fun y => ⟨Int.emod_nonneg _ (by omega), Int.emod_lt_of_pos _ (by omega)⟩
    have HM := Lib.hid hm
    have HA := Lib.hid (fun m => src_at m HP.out HB.out h2 i2 hz.1 hz.2)
    clear hm hz
    by_cases h3 : n ≤ 256
    · by_cases h4 : ((at' : Int) + 1) % 2 = 0
      · go_enter Try.func38, Try.ntmps38
        go_wp2
        go_quiet (fail)
        go_wp2
        go_quiet (fail)
        go_wp2
        go_quiet (fail)
        go_wp2
        go_ret
        exact ⟨_, rfl, (HM.out _).1, .inl (HM.out _).2, (HA.out _).1.drewN _, grown_trans (HA.out _).2 (grown_drewN _ _ _)⟩
      · go_enter Try.func38, Try.ntmps38
        go_wp2
        go_quiet (fail)
        go_wp2
        go_quiet (fail)
        go_wp2
        go_ret
        exact ⟨_, rfl, (HM.out _).1, .inl (HM.out _).2, (HA.out _).1, (HA.out _).2⟩
    · have hd : decide (n ≤ 256) = false := by simpa using h3
      go_enter Try.func38, Try.ntmps38
      go_wp2
      go_quiet (fail)
      go_wp2
      go_quiet (fail)
      go_wp2
      go_ret
      exact ⟨_, rfl, (HM.out _).1, .inl (HM.out _).2, (HA.out _).1, (HA.out _).2⟩
  · have hz : 0 ≤ (seed * 48271 + 71) % 2147483647 ∧ (seed * 48271 + 71) % 2147483647 ≤ 2147483646 := by omega
    have hm : ∀ y : Int, 0 ≤ y % n ∧ y % n < n := fun y => ⟨Int.emod_nonneg _ (by omega), Int.emod_lt_of_pos _ (by omega)⟩
    have HM := Lib.hid hm
    have HA := Lib.hid (src_seed HP.out HB.out i1 i2 hz.1 hz.2)
    clear hm hz
    go_enter Try.func38, Try.ntmps38
    go_wp2
    go_quiet (fail)
    go_wp2
    go_ret
    exact ⟨_, rfl, (HM.out _).1, .inl (HM.out _).2, HA.out.1.drewN _, grown_trans HA.out.2 (grown_drewN _ _ _)⟩
end Go.Proofs.Ytenaeehefamdmaa.Draws
