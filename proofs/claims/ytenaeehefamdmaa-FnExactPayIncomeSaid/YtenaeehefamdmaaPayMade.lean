/-
  What pay has made when its first statement is done, in whatever order it was reckoned.
  Conditions: as each lemma says.
-/
import Derived.Test.YtenaeehefamdmaaPays
namespace Go.Proofs.Ytenaeehefamdmaa.Pays
open Go.RowKit Mem IsClasses Living Owns Concats
set_option linter.unusedVariables false

def Made (wA : World) (sh de : List Int) (ch : Int) (p7 v8 : Value) (wx : World) : Prop := ∃ (q g : Nat) (u1 u2 : Value), p7 = .pointer (some ⟨q, 0, none⟩) ∧ v8 = .slice (some ⟨g, 0, none⟩) sh.length sh.length ∧ FBox wx q u1 u2 (.int .i64 ch) ∧ Sl wx wA.heap.size u1 sh ∧ Sl wx wA.heap.size u2 de ∧
  wx.ownsRow wA.heap.size 2 1 (.slice (some ⟨g, 0, none⟩) sh.length sh.length) sh.length ((paidL sh de 0 sh.length 0).map (Value.int .i64)) ∧ Below wA.heap.size wA wx ∧ wA.heap.size ≤ q ∧ wA.heap.size ≤ g ∧ q ≠ g ∧ Sep u1 u2 ∧ (∀ k, u1.ownBlock = some k → k ≠ q ∧ k ≠ g) ∧ (∀ k, u2.ownBlock = some k → k ≠ q ∧ k ≠ g)

theorem FBox.store3 {w : World} {q : Nat} {x y z : Value} (h : FBox w q x y z) (a b c : Value) : FBox (((w.setCell ⟨q, 0, none⟩ a).setCell ⟨q, 1, none⟩ b).setCell ⟨q, 2, none⟩ c) q a b c :=
  heap_setCell_same _ q 2 _ _ c (heap_setCell_same _ q 1 _ _ b (heap_setCell_same w q 0 _ _ a h))
theorem other3 {w : World} {q g : Nat} {o : Obj} (h : w.heap[g]? = some o) (hne : g ≠ q) (a b c : Value) : (((w.setCell ⟨q, 0, none⟩ a).setCell ⟨q, 1, none⟩ b).setCell ⟨q, 2, none⟩ c).heap[g]? = some o :=
  (heap_setCell_other _ ⟨q, 2, none⟩ g c hne).trans ((heap_setCell_other _ ⟨q, 1, none⟩ g b hne).trans ((heap_setCell_other w ⟨q, 0, none⟩ g a hne).trans h))
theorem sl_store3 {w : World} {B q : Nat} {v : Value} {xs : List Int} (h : Sl w B v xs) (hne : ∀ k, v.ownBlock = some k → k ≠ q) (a b c : Value) : Sl (((w.setCell ⟨q, 0, none⟩ a).setCell ⟨q, 1, none⟩ b).setCell ⟨q, 2, none⟩ c) B v xs := by
  refine Marks.sl_grown (Marks.sl_grown (Marks.sl_grown h (Marks.gset _ q 0 a) ?_) (Marks.gset _ q 1 b) ?_) (Marks.gset _ q 2 c) ?_
  all_goals exact fun k e1 e2 => by injection e1 with e1; exact hne k e2 e1.symm
theorem bel_store3 {B : Nat} {w0 w : World} {q : Nat} (h : Below B w0 w) (hq : B ≤ q) (a b c : Value) : Below B w0 (((w.setCell ⟨q, 0, none⟩ a).setCell ⟨q, 1, none⟩ b).setCell ⟨q, 2, none⟩ c) := ((h.setCell (by exact hq) _).setCell (by exact hq) _).setCell (by exact hq) _
theorem size3 (w : World) (q : Nat) (a b c : Value) : (((w.setCell ⟨q, 0, none⟩ a).setCell ⟨q, 1, none⟩ b).setCell ⟨q, 2, none⟩ c).heap.size = w.heap.size := by simp

def ZM (sh de : List Int) (M : Array Value) : Prop := M.toList = (paidL sh de 0 sh.length 0).map (Value.int .i64) ∧ M.size = sh.length
theorem made_mk {wA wx : World} {sh de : List Int} {ch : Int} {q g : Nat} {u1 u2 : Value} {M : Array Value} (hn : sh.length ≤ 60) (hM : ZM sh de M) (hb : FBox wx q u1 u2 (.int .i64 ch)) (hg : wx.heap[g]? = some (.cells M 2 (0, 0))) (h1 : Sl wx wA.heap.size u1 sh) (h2 : Sl wx wA.heap.size u2 de)
    (hbel : Below wA.heap.size wA wx) (hq : wA.heap.size ≤ q) (hg' : wA.heap.size ≤ g) (hne : q ≠ g) (hs : Sep u1 u2) (b1 : ∀ k, u1.ownBlock = some k → k ≠ q ∧ k ≠ g) (b2 : ∀ k, u2.ownBlock = some k → k ≠ q ∧ k ≠ g) :
    Made wA sh de ch (.pointer (some ⟨q, 0, none⟩)) (.slice (some ⟨g, 0, none⟩) sh.length sh.length) wx :=
  ⟨q, g, u1, u2, rfl, rfl, hb, h1, h2, ⟨by rw [List.length_map, paid_len, Nat.mul_one], .inr ⟨g, sh.length, M, rfl, hg', hg, Nat.le_refl _, by unfold maxLen; omega, by rw [hM.2, Nat.mul_one], by rw [Nat.mul_one, ← hM.1]; exact List.take_of_length_le (by simp [hM.2])⟩⟩, hbel, hq, hg', hne, hs, b1, b2⟩

theorem made_k1 {wA w1 : World} {sh de : List Int} {ch : Int} {u1 u2 : Value} {M : Array Value} (hn : sh.length ≤ 60) (hM : ZM sh de M) (hc : Below wA.drew.heap.size wA.drew w1) (h1 : Sl w1 wA.drew.heap.size u1 sh) (h2 : Sl w1 wA.drew.heap.size u2 de) (hs : Sep u1 u2) :
    Made wA sh de ch (.pointer (some ⟨w1.heap.size + 1, 0, none⟩)) (.slice (some ⟨w1.heap.size, 0, none⟩) sh.length sh.length) ((w1.alloc (.cells M 2)).alloc (.cells #[u1, u2, .int .i64 ch] 26)) := by
  have hz : wA.heap.size ≤ w1.heap.size := by have := hc.size; simp at this; omega
  have z := hc.size
  have o1 := fun k e => Marks.sl_own h1 k e
  have o2 := fun k e => Marks.sl_own h2 k e
  have hA : Below wA.heap.size wA w1 := bl (Below.refl _ _).drew hc
  simp at z
  have g1 : Sl w1 wA.heap.size u1 sh := sl_mono (by simp <;> omega) h1
  have g2 : Sl w1 wA.heap.size u2 de := sl_mono (by simp <;> omega) h2
  refine made_mk hn hM ?_ ?_ ?_ ?_ ?_ (by omega) (by omega) (by omega) hs (fun k e => by have := o1 k e; simp at this; omega) (fun k e => by have := o2 k e; simp at this; omega)
  · have := fbox_new (w1.alloc (.cells M 2)) u1 u2 (.int .i64 ch)
    rw [show (w1.alloc (.cells M 2)).heap.size = w1.heap.size + 1 by simp] at this
    exact this
  · exact ((b0 (w1.alloc (.cells M 2)) _).block w1.heap.size (by simp)).trans (heap_alloc_new w1 _)
  · exact (g1.below (b0 _ _)).below (b0 _ _)
  · exact (g2.below (b0 _ _)).below (b0 _ _)
  · exact bl (bl hA (b0 _ _)) (b0 _ _)
theorem made_k2 {wA w1 : World} {sh de : List Int} {ch : Int} {u1 u2 : Value} {M : Array Value} (hn : sh.length ≤ 60) (hM : ZM sh de M) (hc : Below wA.drew.heap.size wA.drew w1) (h1 : Sl w1 wA.drew.heap.size u1 sh) (h2 : Sl w1 wA.drew.heap.size u2 de) (hs : Sep u1 u2) :
    Made wA sh de ch (.pointer (some ⟨w1.heap.size, 0, none⟩)) (.slice (some ⟨w1.heap.size + 1, 0, none⟩) sh.length sh.length) ((w1.alloc (.cells #[u1, u2, .int .i64 ch] 26)).alloc (.cells M 2)) := by
  have hz : wA.heap.size ≤ w1.heap.size := by have := hc.size; simp at this; omega
  have z := hc.size
  have o1 := fun k e => Marks.sl_own h1 k e
  have o2 := fun k e => Marks.sl_own h2 k e
  have hA : Below wA.heap.size wA w1 := bl (Below.refl _ _).drew hc
  simp at z
  have g1 : Sl w1 wA.heap.size u1 sh := sl_mono (by simp <;> omega) h1
  have g2 : Sl w1 wA.heap.size u2 de := sl_mono (by simp <;> omega) h2
  refine made_mk hn hM ?_ ?_ ?_ ?_ ?_ (by omega) (by omega) (by omega) hs (fun k e => by have := o1 k e; simp at this; omega) (fun k e => by have := o2 k e; simp at this; omega)
  · exact (fbox_new w1 u1 u2 (.int .i64 ch)).below (b0 _ _)
  · have := heap_alloc_new (w1.alloc (.cells #[u1, u2, .int .i64 ch] 26)) (.cells M 2)
    rw [show (w1.alloc (.cells #[u1, u2, .int .i64 ch] 26)).heap.size = w1.heap.size + 1 by simp] at this
    exact this
  · exact (g1.below (b0 _ _)).below (b0 _ _)
  · exact (g2.below (b0 _ _)).below (b0 _ _)
  · exact bl (bl hA (b0 _ _)) (b0 _ _)
theorem made_k3 {wA w1 : World} {sh de : List Int} {ch : Int} {u1 u2 : Value} {M : Array Value} (hn : sh.length ≤ 60) (hM : ZM sh de M) (hc : Below (wA.drew.alloc (.cells M 2)).heap.size (wA.drew.alloc (.cells M 2)) w1) (h1 : Sl w1 (wA.drew.alloc (.cells M 2)).heap.size u1 sh) (h2 : Sl w1 (wA.drew.alloc (.cells M 2)).heap.size u2 de) (hs : Sep u1 u2) :
    Made wA sh de ch (.pointer (some ⟨w1.heap.size, 0, none⟩)) (.slice (some ⟨wA.heap.size, 0, none⟩) sh.length sh.length) (w1.alloc (.cells #[u1, u2, .int .i64 ch] 26)) := by
  have hz : wA.heap.size ≤ w1.heap.size := by have := hc.size; simp at this; omega
  have z := hc.size
  have o1 := fun k e => Marks.sl_own h1 k e
  have o2 := fun k e => Marks.sl_own h2 k e
  have hA : Below wA.heap.size wA w1 := bl (bl (Below.refl _ _).drew (b0 _ _)) hc
  simp at z
  have g1 : Sl w1 wA.heap.size u1 sh := sl_mono (by simp <;> omega) h1
  have g2 : Sl w1 wA.heap.size u2 de := sl_mono (by simp <;> omega) h2
  refine made_mk hn hM ?_ ?_ ?_ ?_ ?_ (by omega) (by omega) (by omega) hs (fun k e => by have := o1 k e; simp at this; omega) (fun k e => by have := o2 k e; simp at this; omega)
  · exact fbox_new w1 u1 u2 (.int .i64 ch)
  · exact ((b0 w1 _).block wA.heap.size (by omega)).trans ((hc.block wA.heap.size (by simp)).trans (heap_alloc_new wA.drew _))
  · exact g1.below (b0 _ _)
  · exact g2.below (b0 _ _)
  · exact bl hA (b0 _ _)
theorem made_k4 {wA w1 : World} {sh de : List Int} {ch : Int} {u1 u2 : Value} {M : Array Value} (hn : sh.length ≤ 60) (hM : ZM sh de M) (hc : Below ((wA.drew.alloc (.cells M 2)).alloc (.cells #[.slice none 0 0, .slice none 0 0, .int .i64 0] 26)).heap.size ((wA.drew.alloc (.cells M 2)).alloc (.cells #[.slice none 0 0, .slice none 0 0, .int .i64 0] 26)) w1) (h1 : Sl w1 ((wA.drew.alloc (.cells M 2)).alloc (.cells #[.slice none 0 0, .slice none 0 0, .int .i64 0] 26)).heap.size u1 sh) (h2 : Sl w1 ((wA.drew.alloc (.cells M 2)).alloc (.cells #[.slice none 0 0, .slice none 0 0, .int .i64 0] 26)).heap.size u2 de) (hs : Sep u1 u2) :
    Made wA sh de ch (.pointer (some ⟨wA.heap.size + 1, 0, none⟩)) (.slice (some ⟨wA.heap.size, 0, none⟩) sh.length sh.length) (((w1.setCell ⟨wA.heap.size + 1, 0, none⟩ u1).setCell ⟨wA.heap.size + 1, 1, none⟩ u2).setCell ⟨wA.heap.size + 1, 2, none⟩ (.int .i64 ch)) := by
  have hz : wA.heap.size ≤ w1.heap.size := by have := hc.size; simp at this; omega
  have z := hc.size
  have o1 := fun k e => Marks.sl_own h1 k e
  have o2 := fun k e => Marks.sl_own h2 k e
  have hA : Below wA.heap.size wA w1 := bl (bl (bl (Below.refl _ _).drew (b0 _ _)) (b0 _ _)) hc
  simp at z
  have g1 : Sl w1 wA.heap.size u1 sh := sl_mono (by simp <;> omega) h1
  have g2 : Sl w1 wA.heap.size u2 de := sl_mono (by simp <;> omega) h2
  have n1 : ∀ k, u1.ownBlock = some k → k ≠ wA.heap.size + 1 := fun k e => by have := o1 k e; simp at this; omega
  have n2 : ∀ k, u2.ownBlock = some k → k ≠ wA.heap.size + 1 := fun k e => by have := o2 k e; simp at this; omega
  refine made_mk hn hM ?_ ?_ ?_ ?_ ?_ (by omega) (by omega) (by omega) hs (fun k e => by have := o1 k e; simp at this; omega) (fun k e => by have := o2 k e; simp at this; omega)
  · have := fbox_new (wA.drew.alloc (.cells M 2)) (.slice none 0 0) (.slice none 0 0) (.int .i64 0)
    rw [show (wA.drew.alloc (.cells M 2)).heap.size = wA.heap.size + 1 by simp] at this
    exact (this.below' (by simp) hc).store3 _ _ _
  · exact other3 ((hc.block wA.heap.size (by simp <;> omega)).trans (((b0 (wA.drew.alloc (.cells M 2)) _).block wA.heap.size (by simp)).trans (heap_alloc_new wA.drew _))) (by omega) _ _ _
  · exact sl_store3 g1 n1 _ _ _
  · exact sl_store3 g2 n2 _ _ _
  · exact bel_store3 hA (by omega) _ _ _
theorem made_k5 {wA w1 : World} {sh de : List Int} {ch : Int} {u1 u2 : Value} {M : Array Value} (hn : sh.length ≤ 60) (hM : ZM sh de M) (hc : Below (wA.drew.alloc (.cells #[.slice none 0 0, .slice none 0 0, .int .i64 0] 26)).heap.size (wA.drew.alloc (.cells #[.slice none 0 0, .slice none 0 0, .int .i64 0] 26)) w1) (h1 : Sl w1 (wA.drew.alloc (.cells #[.slice none 0 0, .slice none 0 0, .int .i64 0] 26)).heap.size u1 sh) (h2 : Sl w1 (wA.drew.alloc (.cells #[.slice none 0 0, .slice none 0 0, .int .i64 0] 26)).heap.size u2 de) (hs : Sep u1 u2) :
    Made wA sh de ch (.pointer (some ⟨wA.heap.size, 0, none⟩)) (.slice (some ⟨w1.heap.size, 0, none⟩) sh.length sh.length) ((((w1.setCell ⟨wA.heap.size, 0, none⟩ u1).setCell ⟨wA.heap.size, 1, none⟩ u2).setCell ⟨wA.heap.size, 2, none⟩ (.int .i64 ch)).alloc (.cells M 2)) := by
  have hz : wA.heap.size ≤ w1.heap.size := by have := hc.size; simp at this; omega
  have z := hc.size
  have o1 := fun k e => Marks.sl_own h1 k e
  have o2 := fun k e => Marks.sl_own h2 k e
  have hA : Below wA.heap.size wA w1 := bl (bl (Below.refl _ _).drew (b0 _ _)) hc
  simp at z
  have g1 : Sl w1 wA.heap.size u1 sh := sl_mono (by simp <;> omega) h1
  have g2 : Sl w1 wA.heap.size u2 de := sl_mono (by simp <;> omega) h2
  have n1 : ∀ k, u1.ownBlock = some k → k ≠ wA.heap.size := fun k e => by have := o1 k e; simp at this; omega
  have n2 : ∀ k, u2.ownBlock = some k → k ≠ wA.heap.size := fun k e => by have := o2 k e; simp at this; omega
  refine made_mk hn hM ?_ ?_ ?_ ?_ ?_ (by omega) (by omega) (by omega) hs (fun k e => by have := o1 k e; simp at this; omega) (fun k e => by have := o2 k e; simp at this; omega)
  · exact (((fbox_new wA.drew (.slice none 0 0) (.slice none 0 0) (.int .i64 0)).below hc).store3 _ _ _).below (b0 _ _)
  · have := heap_alloc_new (((w1.setCell ⟨wA.heap.size, 0, none⟩ u1).setCell ⟨wA.heap.size, 1, none⟩ u2).setCell ⟨wA.heap.size, 2, none⟩ (.int .i64 ch)) (.cells M 2)
    rw [size3] at this
    exact this
  · exact (sl_store3 g1 n1 _ _ _).below (b0 _ _)
  · exact (sl_store3 g2 n2 _ _ _).below (b0 _ _)
  · exact bl (bel_store3 hA (Nat.le_refl _) _ _ _) (b0 _ _)
theorem made_k6 {wA w1 : World} {sh de : List Int} {ch : Int} {u1 u2 : Value} {M : Array Value} (hn : sh.length ≤ 60) (hM : ZM sh de M) (hc : Below ((wA.drew.alloc (.cells #[.slice none 0 0, .slice none 0 0, .int .i64 0] 26)).alloc (.cells M 2)).heap.size ((wA.drew.alloc (.cells #[.slice none 0 0, .slice none 0 0, .int .i64 0] 26)).alloc (.cells M 2)) w1) (h1 : Sl w1 ((wA.drew.alloc (.cells #[.slice none 0 0, .slice none 0 0, .int .i64 0] 26)).alloc (.cells M 2)).heap.size u1 sh) (h2 : Sl w1 ((wA.drew.alloc (.cells #[.slice none 0 0, .slice none 0 0, .int .i64 0] 26)).alloc (.cells M 2)).heap.size u2 de) (hs : Sep u1 u2) :
    Made wA sh de ch (.pointer (some ⟨wA.heap.size, 0, none⟩)) (.slice (some ⟨wA.heap.size + 1, 0, none⟩) sh.length sh.length) (((w1.setCell ⟨wA.heap.size, 0, none⟩ u1).setCell ⟨wA.heap.size, 1, none⟩ u2).setCell ⟨wA.heap.size, 2, none⟩ (.int .i64 ch)) := by
  have hz : wA.heap.size ≤ w1.heap.size := by have := hc.size; simp at this; omega
  have z := hc.size
  have o1 := fun k e => Marks.sl_own h1 k e
  have o2 := fun k e => Marks.sl_own h2 k e
  have hA : Below wA.heap.size wA w1 := bl (bl (bl (Below.refl _ _).drew (b0 _ _)) (b0 _ _)) hc
  simp at z
  have g1 : Sl w1 wA.heap.size u1 sh := sl_mono (by simp <;> omega) h1
  have g2 : Sl w1 wA.heap.size u2 de := sl_mono (by simp <;> omega) h2
  have n1 : ∀ k, u1.ownBlock = some k → k ≠ wA.heap.size := fun k e => by have := o1 k e; simp at this; omega
  have n2 : ∀ k, u2.ownBlock = some k → k ≠ wA.heap.size := fun k e => by have := o2 k e; simp at this; omega
  refine made_mk hn hM ?_ ?_ ?_ ?_ ?_ (by omega) (by omega) (by omega) hs (fun k e => by have := o1 k e; simp at this; omega) (fun k e => by have := o2 k e; simp at this; omega)
  · exact ((((fbox_new wA.drew (.slice none 0 0) (.slice none 0 0) (.int .i64 0)).below (b0 _ _)).below hc).store3 _ _ _)
  · refine other3 ((hc.block (wA.heap.size + 1) (by simp <;> omega)).trans ?_) (by omega) _ _ _
    have := heap_alloc_new (wA.drew.alloc (.cells #[.slice none 0 0, .slice none 0 0, .int .i64 0] 26)) (.cells M 2)
    rw [show (wA.drew.alloc (.cells #[.slice none 0 0, .slice none 0 0, .int .i64 0] 26)).heap.size = wA.heap.size + 1 by simp] at this
    exact this
  · exact sl_store3 g1 n1 _ _ _
  · exact sl_store3 g2 n2 _ _ _
  · exact bel_store3 hA (Nat.le_refl _) _ _ _
theorem own_other {w : World} {B E g q o n c : Nat} {xs : List Value} (h : w.ownsRow B E 1 (.slice (some ⟨g, 0, none⟩) n c) n xs) (hne : g ≠ q) (u : Value) : (w.setCell ⟨q, o, none⟩ u).ownsRow B E 1 (.slice (some ⟨g, 0, none⟩) n c) n xs := by
  obtain ⟨h1, h2⟩ := h
  refine ⟨h1, ?_⟩
  rcases h2 with ⟨h2, _⟩ | ⟨g', cap, cur, hv, hg, hh, r⟩
  · cases h2
  · injection hv with e1 e2 e3
    injection e1 with e1
    injection e1 with e1
    subst e1
    exact .inr ⟨g, cap, cur, by rw [e3], hg, (heap_setCell_other w ⟨q, o, none⟩ g u hne).trans hh, r⟩
theorem grown_bel {w w' : World} (h : Below w.heap.size w w') (r : Option Nat) : w.grownBy w' r := ⟨h.os, h.tape, h.output, h.size, fun k hk _ => h.block k hk⟩
/-- What pay returns. -/
def RawIs (sh de : List Int) (ch inc : Int) (P : List Int) (C : Int) (ok : Bool) : Prop := (0 < lv sh de sh.length ∧ P = paidL sh de ((ch + inc) / lv sh de sh.length) sh.length sh.length ∧ C = (ch + inc) % lv sh de sh.length ∧ ok = true) ∨ (lv sh de sh.length = 0 ∧ P = paidL sh de 0 sh.length 0 ∧ C = ch + inc ∧ ok = decide (ch + inc ≤ 1000000000000))
def PayRaw (sh de : List Int) (ch inc : Int) (w : World) (e : Ending) (w' : World) : Prop := ∃ P C ok u1 u2 p, e = .returned (.tuple #[.agg #[u1, u2, .int .i64 C], p, .bool ok]) ∧ Lies w.heap.size w' u1 u2 p sh de P ∧ Below w.heap.size w w' ∧ RawIs sh de ch inc P C ok
end Go.Proofs.Ytenaeehefamdmaa.Pays
