/-
  Contracts of the reference's draws of sickness tables and ages.
  Conditions: the code has at most 4096 bytes. What is drawn is some table, some list, some int64: no more is said.
-/
import Derived.Test.YtochnbljjlloiaaDraws4
import Derived.Deep.RegionHeld3
import Derived.Deep.RegionWith
namespace Go.Proofs.Ytochnbljjlloiaa.Draws
open Go.RowKit Mem
set_option linter.unusedVariables false

/-- A row of integers does not lie in a block of another type. -/
theorem own_ne {w : World} {B e e' n q : Nat} {v : Value} {xs : List Value} {c : Array Value} {z : Nat × Nat} (h : w.ownsRow B e 1 v n xs) (hb : w.heap[q]? = some (.cells c e' z)) (he : e ≠ e') : v.ownBlock ≠ some q := by
  rcases h.2 with ⟨rfl, _⟩ | ⟨g, cap, cur, rfl, hg, hh, _⟩
  · simp [Value.ownBlock]
  · intro k
    simp [Value.ownBlock] at k
    subst k
    rw [hh] at hb
    injection hb with hb
    injection hb with h1 h2 h3
    exact he h2
/-- An append, seen from a block that is not the row's. -/
theorem app_block {w w1 : World} {B e n q : Nat} {v : Value} {xs : List Value} {o o' : Obj} (hown : w.ownsRow B e 1 v n xs) (hg : (w.alloc o).grownBy w1 v.ownBlock) (hne : v.ownBlock ≠ some q) (hq : w.heap[q]? = some o') : w1.heap[q]? = some o' := by
  have hl := lt_of_get hq
  exact ((hg.block q (by simp; omega) (fun e => hne e.symm)).trans (Below.heap_alloc w o q hl)).trans hq
theorem app_grown {w0 w w1 : World} {B e n p : Nat} {v : Value} {xs : List Value} {o : Obj} (h : w0.grownBy w (some p)) (hB0 : w0.heap.size ≤ B) (hown : w.ownsRow B e 1 v n xs) (hg : (w.alloc o).grownBy w1 v.ownBlock) : w0.grownBy w1 (some p) := by
  have hs := hg.size
  simp at hs
  refine ⟨hg.os.trans h.os, hg.tape.trans h.tape, hg.output.trans h.output, by have := h.size; omega, fun i hi hr => ?_⟩
  have h1 := h.size
  exact ((hg.block i (by simp; omega) (fun e => by have := (hown.lt i e.symm).1; omega)).trans (Below.heap_alloc w o i (by omega))).trans (h.block i hi hr)
theorem app_src {w w1 : World} {B e n p : Nat} {v : Value} {xs : List Value} {o : Obj} (hB : B ≤ w.heap.size) (hp : p < B) (hs : Src w p) (hown : w.ownsRow B e 1 v n xs) (hg : (w.alloc o).grownBy w1 v.ownBlock) : Src w1 p := by
  refine hs.keep fun i hi => ?_
  exact (hg.block i (by simp; omega) (fun e => by have := (hown.lt i e.symm).1; omega)).trans (Below.heap_alloc w o i (by omega))

theorem field1 {w : World} {q : Nat} {x y : Value} {e : TypeId} {z : Nat × Nat} (h : w.heap[q]? = some (.cells #[x, y] e z)) : w.cell? ⟨q, 1, none⟩ = some y := cell_of_block h rfl
theorem grown_set_new {w0 w : World} {p q o : Nat} {v : Value} (h : w0.grownBy w (some p)) (hq : w0.heap.size ≤ q) : w0.grownBy (w.setCell ⟨q, o, none⟩ v) (some p) := by
  have k := grown_set w q o v
  refine ⟨k.os.trans h.os, k.tape.trans h.tape, k.output.trans h.output, Nat.le_trans h.size k.size, fun i hi hr => ?_⟩
  exact (k.block i (Nat.lt_of_lt_of_le hi h.size) (by simp; omega)).trans (h.block i hi hr)
theorem own_set {w : World} {B e n q o : Nat} {v x : Value} {xs : List Value} (h : w.ownsRow B e 1 v n xs) (hne : v.ownBlock ≠ some q) : (w.setCell ⟨q, o, none⟩ x).ownsRow B e 1 v n xs :=
  h.kept (grown_set w q o x) (.inr hne)
theorem src_set {w : World} {p q o : Nat} {v : Value} (h : Src w p) (hq : p < q) : Src (w.setCell ⟨q, o, none⟩ v) p :=
  h.keep fun i hi => Below.heap_setCell w ⟨q, o, none⟩ v i (by show i ≠ q; omega)

theorem own_head {w : World} {B gb k cp : Nat} {ys : List Int} (h : w.ownsRow B 2 1 (.slice (some ⟨gb, 0, none⟩) k cp) k (ys.map (Value.int .i64))) (hk : 1 ≤ k) : ∃ y, w.cell? ⟨gb, 0, none⟩ = some (.int .i64 y) ∧ w.frozen? ⟨gb, 0, none⟩ = false := by
  have hl := h.1
  rw [List.length_map] at hl
  refine ⟨ys.getD 0 0, ?_, h.frozenAt 0⟩
  rw [h.cellAt 0 (by omega), List.getElem?_map]
  simp [List.getD, show 0 < ys.length by omega]
theorem own_some {w : World} {B k co : Nat} {ao : Option Addr} {xs : List Value} {e : TypeId} (h : w.ownsRow B e 1 (.slice ao k co) k xs) (hk : 1 ≤ k) : ∃ gb, ao = some ⟨gb, 0, none⟩ ∧ B ≤ gb := by
  rcases h.2 with ⟨_, h0⟩ | ⟨gb, cp, cur, hv, hg, _⟩
  · omega
  · injection hv with h1 h2 h3
    exact ⟨gb, h1, hg⟩

/-- A block of two cells that is written over. -/
theorem two_set {w : World} {q : Nat} {x y : Value} {e : TypeId} (u v : Value) (h : w.heap[q]? = some (.cells #[x, y] e (0, 0))) :
    (w.setCell ⟨q, 0, none⟩ u).cell? ⟨q, 0, none⟩ = some u ∧ ((w.setCell ⟨q, 0, none⟩ u).setCell ⟨q, 1, none⟩ v).cell? ⟨q, 0, none⟩ = some u ∧ ((w.setCell ⟨q, 0, none⟩ u).setCell ⟨q, 1, none⟩ v).cell? ⟨q, 1, none⟩ = some v := by
  have h1 := heap_setCell_same w q 0 _ _ u h
  have h2 := heap_setCell_same (w.setCell ⟨q, 0, none⟩ u) q 1 _ _ v h1
  exact ⟨cell_of_block h1 rfl, cell_of_block h2 rfl, cell_of_block h2 rfl⟩

/-- A struct of a number and a list, the list under construction, in block q. -/
def SBuild (T B p q : Nat) (w : World) (f : Int) (n : Nat) : Prop := ∃ (v : Value) (ys : List Int), w.heap[q]? = some (.cells #[.int .i64 f, v] T (0, 0)) ∧ w.ownsRow B 2 1 v n (ys.map (Value.int .i64)) ∧ AllI64 ys ∧ Src w p ∧ B ≤ w.heap.size

def SickDrawn (p : Nat) (w : World) (e : Ending) (w' : World) : Prop := ∃ (f : Int) (v : Value) (xs : List Int), e = .returned (.agg #[.int .i64 f, v]) ∧ I64 f ∧ Sl w' w.heap.size v xs ∧ xs.length ≤ 30 ∧ AllI64 xs ∧ Src w' p ∧ w.grownBy w' (some p)

set_option maxHeartbeats 1000000 in
set_option maxRecDepth 1000000 in
theorem sick_any (p : Nat) (w : World) (h : Src w p) : Calls Try.prog 81 #[.pointer (some ⟨p, 0, none⟩)] w (SickDrawn p w) := by
  obtain ⟨i0, hi, hz0, hz1, hz2⟩ := info_parts infoD
  have hpB := h.lt
  have HPW := Lib.hid hpB
  have HPB := Lib.hid (Nat.lt_succ_of_lt hpB)
  have HS0 := Lib.hid h
  clear h hpB
  go_enter Try.func81, Try.ntmps81
  go_wp2_with fail
  have hz0s : (w.alloc (.cells #[.int .i64 0, .slice none 0 0] 40)).heap.size = w.heap.size + 1 := by simp
  have hz0h := heap_alloc_new w (.cells #[.int .i64 0, .slice none 0 0] 40)
  have hz0b := b0 w (.cells #[.int .i64 0, .slice none 0 0] 40)
  generalize w.alloc (.cells #[.int .i64 0, .slice none 0 0] 40) = wz at *
  have HZS := Lib.hid hz0s
  have HZH := Lib.hid hz0h
  have HZB := Lib.hid hz0b
  clear hz0s hz0h hz0b
  refine (pick_lit _ _ _ _ I64 _ _ (HS0.out.below HZB.out) HZS.out.symm (by rfl) (by decide) (by decide) (by repeat (first | exact all_nil _ | refine all_cons ⟨_, rfl, by (unfold I64; omega)⟩ ?_))).mono ?_; rintro e w1 ⟨f, rfl, f0, hs, hg⟩
  have F0 := Lib.hid f0
  unfold I64 at f0
  have HG := Lib.hid hg
  have HS := Lib.hid hs
  have hsz1 : w.heap.size + 1 ≤ w1.heap.size := by have := hg.size; have := HZS.out; omega
  clear hg hs
  go_wp2_with fail
  have HQ1 : Hid (((w1.alloc (.cells #[] 2)).alloc (.cells #[.int .i64 f, .slice (some ⟨w1.heap.size, 0, none⟩) 0 0] 40)).heap[w1.heap.size + 1]? = some (.cells #[.int .i64 f, .slice (some ⟨w1.heap.size, 0, none⟩) 0 0] 40 (0, 0))) := by
    show _ = _
    have := heap_alloc_new (w1.alloc (.cells #[] 2)) (.cells #[.int .i64 f, .slice (some ⟨w1.heap.size, 0, none⟩) 0 0] 40)
    simpa using this
  have HO1 := Lib.hid ((World.ownsRow_made (base := w.heap.size + 1) (e := 2) (size := 1) w1 #[] 0 (by omega) (by unfold maxLen; omega) rfl).alloc (.cells #[.int .i64 f, .slice (some ⟨w1.heap.size, 0, none⟩) 0 0] 40))
  have HS1 := Lib.hid ((HS.out.below (b0 w1 (.cells #[] 2))).below (b0 _ (.cells #[.int .i64 f, .slice (some ⟨w1.heap.size, 0, none⟩) 0 0] 40)))
  have HG1 := Lib.hid (grown_trans (grown_trans HG.out (grown_of_below (b0 w1 (.cells #[] 2)) (some p))) (grown_of_below (b0 _ (.cells #[.int .i64 f, .slice (some ⟨w1.heap.size, 0, none⟩) 0 0] 40)) (some p)))
  go_wp2_with fail
  refine (next_lit _ _ _ HS1.out (by omega) (by omega)).mono ?_; rintro e w2 ⟨g0, rfl, g1, g2, hs, hg⟩
  have HQ2 := Lib.hid ((hg.block (w1.heap.size + 1) (by simp) (by have := HPB.out; simp; omega)).trans HQ1.out)
  have HO2 := Lib.hid (own_keep HO1.out HPB.out hg)
  have HS2 := Lib.hid hs
  have HG2 := Lib.hid (grown_trans HG1.out hg)
  clear hs hg
  go_wp2_with fail
  refine (next_lit _ _ _ HS2.out (by omega) (by omega)).mono ?_; rintro e w3 ⟨n0, rfl, n1, n2, hs, hg⟩
  have HQ3 := Lib.hid ((hg.block (w1.heap.size + 1) (lt_of_get HQ2.out) (by have := HPB.out; simp; omega)).trans HQ2.out)
  have HO3 := Lib.hid (own_keep HO2.out HPB.out hg)
  have HS3 := Lib.hid hs
  have HG3 := Lib.hid (grown_trans HG2.out hg)
  clear hs hg
  go_wp2_with fail
  go_loopw [4, 5] (fun wk n wr => ∃ (k : Nat) (g m : Int), wk = .int .i64 g ∧ n = .int .i64 m ∧ 0 ≤ m ∧ m + k ≤ 30 ∧ (1 ≤ m ∨ 1 ≤ k) ∧ 0 ≤ g ∧ g ≤ 1000 + 300 * (k : Int) ∧ Hid (SBuild 40 (w.heap.size + 1) p (w1.heap.size + 1) wr f k) ∧ Hid (wz.grownBy wr (some p))) (fun _ n _ => (intOf n).toNat)
  case atStart => exact ⟨0, g0, 1 + n0, rfl, rfl, by omega, by omega, by omega, g1, by omega, ⟨_, [], HQ3.out, HO3.out, (fun _ h => by cases h), HS3.out, by have := HG3.out.size; have := lt_of_get HQ3.out; omega⟩, HG3.out⟩
  case round =>
    obtain ⟨k, g, m, rfl, rfl, m0, m1, mk, g3, g4, HSB, HG⟩ := hrel
    obtain ⟨v, ys, hq, hown, hall, hs, hz⟩ := HSB.out
    obtain ⟨ao, co, rfl⟩ := own_shape hown
    have c1 : wr.cell? ⟨w1.heap.size + 1, 1, none⟩ = some (.slice ao k co) := cell_of_block hq rfl
    have c0 : wr.cell? ⟨w1.heap.size + 1, 0, none⟩ = some (.int .i64 f) := cell_of_block hq rfl
    have HQ := Lib.hid hq
    have HO := Lib.hid hown
    have HA := Lib.hid hall
    have HZ := Lib.hid hz
    have HS := Lib.hid hs
    have HNE := Lib.hid (own_ne hown hq (by decide))
    clear hq hown hall hs hz
    by_cases hm : 0 < m
    · go_wp2_with (at_builtin; refine wpList_append_own _ rfl _ _ 22 rfl (w.heap.size + 1) 2 i0 (.int .i64 0) 1 8 Try.underlying22 hi hz0 hz1 hz2 rfl (by decide) _ _ _ rfl (HO.out.alloc _) ⟨wr.heap.size, 0, none⟩ 1 1 [.int .i64 g] rfl rfl ?c1 ?c2 ?c3 ?c4 ?c5 ?c6)
      case c1 =>
        intro j u hj; match j, hj with | 0, hj => simp at hj; subst hj; simp [Addr.add]
      case c2 => intro u hu; simp at hu; subst hu; rfl
      case c3 => unfold maxLen; omega
      case c4 => omega
      case c5 => have := HZ.out; simp; omega
      intro v' w9 hown' hgrow hnil'
      obtain ⟨ao', c', rfl⟩ := own_shape hown'
      have hq9 := app_block HO.out hgrow HNE.out HQ.out
      have c9 := field1 hq9
      have f9 := frozen_of_row w9 (w1.heap.size + 1) 1 _ _ hq9
      have HO9 := Lib.hid hown'
      have HQ9 := Lib.hid hq9
      have HS9 := Lib.hid (app_src HZ.out HPB.out HS.out HO.out hgrow)
      have HG9 := Lib.hid (app_grown HG.out (by rw [HZS.out]; exact Nat.le_refl _) HO.out hgrow)
      clear hown' hgrow hnil' hq9
      go_wp2_with fail
      refine (next_lit _ _ _ (src_set (q := w1.heap.size + 1) (o := 1) (v := .slice ao' (k + 1) c') HS9.out (by have := HPB.out; omega)) (by omega) (by omega)).mono ?_; rintro e w10 ⟨y, rfl, y0, y1, hs, hg⟩
      have HQ10 := Lib.hid ((hg.block (w1.heap.size + 1) (lt_of_get (heap_setCell_same w9 (w1.heap.size + 1) 1 _ _ (.slice ao' (k + 1) c') HQ9.out)) (by have := HPB.out; simp; omega)).trans (heap_setCell_same w9 (w1.heap.size + 1) 1 _ _ (.slice ao' (k + 1) c') HQ9.out))
      have HO10 := Lib.hid (own_keep (own_set (q := w1.heap.size + 1) (o := 1) (x := .slice ao' (k + 1) c') HO9.out (own_ne HO9.out HQ9.out (by decide))) HPB.out hg)
      have HG10 := Lib.hid (grown_trans (grown_set_new (q := w1.heap.size + 1) (o := 1) (v := .slice ao' (k + 1) c') HG9.out (by rw [HZS.out]; omega)) hg)
      have HS10 := Lib.hid hs
      have HX := Lib.hid (all_snoc HA.out (show I64 g by unfold I64; omega))
      clear hs hg
      go_wp2
      go_roundw
      case rel => exact ⟨k + 1, g + y, m - 1, rfl, rfl, by omega, by omega, by omega, by omega, by omega, ⟨_, ys ++ [g], HQ10.out, by rw [List.map_append]; exact HO10.out, HX.out, HS10.out, by have := lt_of_get HQ10.out; omega⟩, HG10.out⟩
      case measure => simp [intOf]; omega
    · have hm' : m ≤ 0 := by omega
      have hk1 : 1 ≤ k := by omega
      have hki : 0 < (k : Int) := by omega
      have hl : ys.length = k := by have := HO.out.1; rw [List.length_map] at this; omega
      clear hm c0 c1
      go_wp2_with fail
      refine (next_lit _ _ _ HS.out (by omega) (by omega)).mono ?_; rintro e w4 ⟨s0, rfl, s1, s2, hs, hg⟩
      have HQ4 := Lib.hid ((hg.block (w1.heap.size + 1) (lt_of_get HQ.out) (by have := HPB.out; simp; omega)).trans HQ.out)
      have HO4 := Lib.hid (own_keep HO.out HPB.out hg)
      have HG4 := Lib.hid (grown_trans HG.out hg)
      have HS4 := Lib.hid hs
      have c0 : w4.cell? ⟨w1.heap.size + 1, 0, none⟩ = some (.int .i64 f) := cell_of_block HQ4.out rfl
      have c1 : w4.cell? ⟨w1.heap.size + 1, 1, none⟩ = some (.slice ao k co) := cell_of_block HQ4.out rfl
      have f0' := frozen_of_row w4 (w1.heap.size + 1) 0 _ _ HQ4.out
      have f1' := frozen_of_row w4 (w1.heap.size + 1) 1 _ _ HQ4.out
      clear hs hg
      have HPW2 := Lib.hid (show p < w.heap.size from HPW.out)
      rcases (by omega : s0 = 0 ∨ s0 = 1 ∨ s0 = 2 ∨ (3 ≤ s0)) with q0 | q0 | q0 | q0
      · subst q0
        obtain ⟨gb, rfl, hgb⟩ := own_some HO4.out hk1
        have hk0 : 0 < k := by omega
        have hgq : ¬ gb = w1.heap.size + 1 := fun e => own_ne HO4.out HQ4.out (by decide) (by rw [e]; rfl)
        have hgq' : ¬ w1.heap.size + 1 = gb := fun e => hgq e.symm
        go_wp2
        go_region_held3 (fun w' => w'.cell? ⟨w1.heap.size + 1, 1, none⟩ = some (.slice (some ⟨gb, 0, none⟩) k co)) (first | go_keep | (rw [World.cell?_of_block (Below.heap_setCell _ _ _ _ hgq')]; assumption)) (first | (go_at_call 83; refine (pick_lit_d _ _ _ _ I64 _ _ HS4.out (by first | rfl | simp) (by rfl) (by decide) (by decide) (by repeat (first | exact all_nil _ | refine all_cons ⟨_, rfl, by (unfold I64; omega)⟩ ?_))).mono ?_; rintro e w5 ⟨x, rfl, x0, hs, hg⟩; have HO5 := Lib.hid (own_keep HO4.out HPB.out hg); have HS5 := Lib.hid hs; have HG5 := Lib.hid (grown_trans HG4.out hg); have HQ5 := Lib.hid ((hg.block (w1.heap.size + 1) (lt_of_get HQ4.out) (by have := HPB.out; simp; omega)).trans HQ4.out); obtain ⟨hd, k1, k2⟩ := own_head HO5.out hk1; have c15 := field1 HQ5.out; clear hs hg))
        have hST := HO5.out.stored 0 (.int .i64 x)
        have HO6 := Lib.hid hST.1
        have hgB : gb < w5.heap.size := (HO5.out.lt gb rfl).2
        have HG6 := Lib.hid (grown_set_new (q := gb) (o := 0) (v := .int .i64 x) HG5.out (by rw [HZS.out]; exact hgb))
        have HS6 := Lib.hid (src_set (q := gb) (o := 0) (v := .int .i64 x) HS5.out (by have := HPW.out; omega))
        have q6 := (Below.heap_setCell w5 ⟨gb, 0, none⟩ (.int .i64 x) (w1.heap.size + 1) hgq').trans HQ5.out
        have d0 := cell_of_block (j := 0) q6 rfl
        have d1 := cell_of_block (j := 1) q6 rfl
        clear hST q6
        have hne : ¬ w.heap.size = gb := by omega
        have hne' : ¬ gb = w.heap.size := by omega
        have z4 := (HG6.out.block w.heap.size (by rw [HZS.out]; omega) (by have := HPW.out; simp; omega)).trans HZH.out
        have t0 := cell_of_block (j := 0) z4 rfl
        have t1 := cell_of_block (j := 1) z4 rfl
        have t2 := frozen_of_row (w5.setCell ⟨gb, 0, none⟩ (.int .i64 x)) w.heap.size 0 _ _ z4
        have t3 := frozen_of_row (w5.setCell ⟨gb, 0, none⟩ (.int .i64 x)) w.heap.size 1 _ _ z4
        have TS := Lib.hid (two_set (.int .i64 f) (.slice (some ⟨gb, 0, none⟩) k co) z4)
        have HX := Lib.hid x0
        clear z4
        go_wp2
        refine bodyPost_ret (v := .agg #[.int .i64 f, .slice (some ⟨gb, 0, none⟩) k co]) (by simp [results, Try.results81, go_sem, TS.out.2.1, TS.out.2.2]) rfl ⟨_, _, ys.set 0 x, rfl, F0.out, ?_, by simp; omega, ?_, ?_, ?_⟩
        · exact sl_mono (Nat.le_succ _) (sl_setCell (B := w.heap.size + 1) (sl_setCell (sl_of_own (n := k) (by rw [List.map_set]; exact HO6.out) (by simp; omega)) (show w.heap.size < w.heap.size + 1 by omega) _) (show w.heap.size < w.heap.size + 1 by omega) _)
        · intro y hy
          rcases List.mem_or_eq_of_mem_set hy with h | h
          · exact HA.out y h
          · rw [h]; exact HX.out
        · exact src_set (src_set HS6.out HPW.out) HPW.out
        · exact grown_set_new (grown_set_new (grown_trans (grown_of_below HZB.out _) HG6.out) (Nat.le_refl _)) (Nat.le_refl _)
      · subst q0
        have e0 : (1 == (0 : Int)) = false := rfl
        go_wp2_with fail
        refine (pick_lit _ _ _ _ I64 _ _ HS4.out (by first | rfl | simp) (by rfl) (by decide) (by decide) (by repeat (first | exact all_nil _ | refine all_cons ⟨_, rfl, by (unfold I64; omega)⟩ ?_))).mono ?_; rintro e w5 ⟨x, rfl, x0, hs, hg⟩
        have HQ5 := Lib.hid ((hg.block (w1.heap.size + 1) (lt_of_get HQ4.out) (by have := HPB.out; simp; omega)).trans HQ4.out)
        have HO5 := Lib.hid (own_keep HO4.out HPB.out hg)
        have HG5 := Lib.hid (grown_trans HG4.out hg)
        have HS5 := Lib.hid hs
        clear hs hg c0 c1 f0' f1'
        have hne : ¬ w.heap.size = w1.heap.size + 1 := by omega
        have hne' : ¬ w1.heap.size + 1 = w.heap.size := by omega
        have c0 : w5.cell? ⟨w1.heap.size + 1, 0, none⟩ = some (.int .i64 f) := cell_of_block HQ5.out rfl
        have f0' := frozen_of_row w5 (w1.heap.size + 1) 0 _ _ HQ5.out
        have q6 := heap_setCell_same w5 (w1.heap.size + 1) 0 _ _ (.int .i64 x) HQ5.out
        have d0 := cell_of_block (j := 0) q6 rfl
        have d1 := cell_of_block (j := 1) q6 rfl
        have HS6 := Lib.hid (src_set (q := w1.heap.size + 1) (o := 0) (v := .int .i64 x) HS5.out (by have := HPW.out; omega))
        have HG6 := Lib.hid (grown_set_new (q := w1.heap.size + 1) (o := 0) (v := .int .i64 x) HG5.out (by rw [HZS.out]; omega))
        have HO6 := Lib.hid (own_set (q := w1.heap.size + 1) (o := 0) (x := .int .i64 x) HO5.out (own_ne HO5.out HQ5.out (by decide)))
        clear q6
        have z4 := (HG6.out.block w.heap.size (by rw [HZS.out]; omega) (by have := HPW.out; simp; omega)).trans HZH.out
        have t0 := cell_of_block (j := 0) z4 rfl
        have t1 := cell_of_block (j := 1) z4 rfl
        have t2 := frozen_of_row (w5.setCell ⟨w1.heap.size + 1, 0, none⟩ (.int .i64 x)) w.heap.size 0 _ _ z4
        have t3 := frozen_of_row (w5.setCell ⟨w1.heap.size + 1, 0, none⟩ (.int .i64 x)) w.heap.size 1 _ _ z4
        have TS := Lib.hid (two_set (.int .i64 x) (.slice ao k co) z4)
        clear z4
        go_wp2
        refine bodyPost_ret (v := .agg #[.int .i64 x, .slice ao k co]) (by simp [results, Try.results81, go_sem, TS.out.2.1, TS.out.2.2]) rfl ⟨_, _, ys, rfl, x0, ?_, by omega, ?_, ?_, ?_⟩
        · exact sl_mono (Nat.le_succ _) (sl_setCell (B := w.heap.size + 1) (sl_setCell (sl_of_own HO6.out (by omega)) (show w.heap.size < w.heap.size + 1 by omega) _) (show w.heap.size < w.heap.size + 1 by omega) _)
        · exact HA.out
        · exact src_set (src_set HS6.out HPW.out) HPW.out
        · exact grown_set_new (grown_set_new (grown_trans (grown_of_below HZB.out _) HG6.out) (Nat.le_refl _)) (Nat.le_refl _)
      · subst q0
        have e0 : (2 == (0 : Int)) = false := rfl
        have e1 : (2 == (1 : Int)) = false := rfl
        have hne : ¬ w.heap.size = w1.heap.size + 1 := by omega
        have hne' : ¬ w1.heap.size + 1 = w.heap.size := by omega
        have q6 := heap_setCell_same w4 (w1.heap.size + 1) 1 _ _ (.slice none 0 0) HQ4.out
        have d0 := cell_of_block (j := 0) q6 rfl
        have d1 := cell_of_block (j := 1) q6 rfl
        have HS6 := Lib.hid (src_set (q := w1.heap.size + 1) (o := 1) (v := .slice none 0 0) HS4.out (by have := HPW.out; omega))
        have HG6 := Lib.hid (grown_set_new (q := w1.heap.size + 1) (o := 1) (v := .slice none 0 0) HG4.out (by rw [HZS.out]; omega))
        clear q6
        have z4 := (HG6.out.block w.heap.size (by rw [HZS.out]; omega) (by have := HPW.out; simp; omega)).trans HZH.out
        have t0 := cell_of_block (j := 0) z4 rfl
        have t1 := cell_of_block (j := 1) z4 rfl
        have t2 := frozen_of_row (w4.setCell ⟨w1.heap.size + 1, 1, none⟩ (.slice none 0 0)) w.heap.size 0 _ _ z4
        have t3 := frozen_of_row (w4.setCell ⟨w1.heap.size + 1, 1, none⟩ (.slice none 0 0)) w.heap.size 1 _ _ z4
        have TS := Lib.hid (two_set (.int .i64 f) (.slice none 0 0) z4)
        clear z4
        go_wp2
        refine bodyPost_ret (v := .agg #[.int .i64 f, .slice none 0 0]) (by simp [results, Try.results81, go_sem, TS.out.2.1, TS.out.2.2]) rfl ⟨_, _, [], rfl, F0.out, ?_, by simp, ?_, ?_, ?_⟩
        · exact .inl ⟨rfl, rfl⟩
        · exact fun _ h => by cases h
        · exact src_set (src_set HS6.out HPW.out) HPW.out
        · exact grown_set_new (grown_set_new (grown_trans (grown_of_below HZB.out _) HG6.out) (Nat.le_refl _)) (Nat.le_refl _)
      · have e0 : (s0 == 0) = false := by simp; omega
        have e1 : (s0 == 1) = false := by simp; omega
        have e2 : (s0 == 2) = false := by simp; omega
        have z4 := (HG4.out.block w.heap.size (by rw [HZS.out]; omega) (by have := HPW.out; simp; omega)).trans HZH.out
        have t0 : w4.cell? ⟨w.heap.size, 0, none⟩ = some (.int .i64 0) := cell_of_block z4 rfl
        have t1 : w4.cell? ⟨w.heap.size, 1, none⟩ = some (.slice none 0 0) := cell_of_block z4 rfl
        have t2 := frozen_of_row w4 w.heap.size 0 _ _ z4
        have t3 := frozen_of_row w4 w.heap.size 1 _ _ z4
        have TS := Lib.hid (two_set (.int .i64 f) (.slice ao k co) z4)
        clear z4
        go_wp2
        refine bodyPost_ret (v := .agg #[.int .i64 f, .slice ao k co]) (by simp [results, Try.results81, go_sem, TS.out.2.1, TS.out.2.2]) rfl ⟨f, .slice ao k co, ys, rfl, F0.out, ?_, by omega, HA.out, ?_, ?_⟩
        · exact sl_mono (Nat.le_succ _) (sl_setCell (B := w.heap.size + 1) (sl_setCell (sl_of_own HO4.out (by omega)) (show w.heap.size < w.heap.size + 1 by omega) _) (show w.heap.size < w.heap.size + 1 by omega) _)
        · exact src_set (src_set HS4.out HPW.out) HPW.out
        · exact grown_set_new (grown_set_new (grown_trans (grown_of_below HZB.out _) HG4.out) (Nat.le_refl _)) (Nat.le_refl _)

end Go.Proofs.Ytochnbljjlloiaa.Draws
