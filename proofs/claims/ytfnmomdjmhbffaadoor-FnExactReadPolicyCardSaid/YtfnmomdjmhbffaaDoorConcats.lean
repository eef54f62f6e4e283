/-
  Contracts of slices.Grow from nil and of slices.Concat of two rows of int64.
  Conditions: as each contract says.
-/
import Derived.Test.YtfnmomdjmhbffaaDoorMem
import Derived.Lib.Walk
import Derived.Lib.SliceRun
import Derived.Lib.AppendZerosOnto
namespace Go.Proofs.YtfnmomdjmhbffaaDoor.Concats
open Go.RowKit Mem
set_option linter.unusedVariables false

theorem info64 : (Tryd.prog.info? 2).map (fun i => (i.zero, i.size, i.bytes)) = some (some (.int .i64 0), 1, 8) := by kernel_rfl

theorem zeros_own {w : World} {B n : Nat} {v : Value} (h : w.ownsRow B 2 1 v n (madeCells (Value.int .i64 0).cells (n * 1)).toList) : w.ownsRow B 2 1 v n ((List.replicate n (0 : Int)).map (Value.int .i64)) := by
  have e : (madeCells (Value.int .i64 0).cells (n * 1)).toList = (List.replicate n (0 : Int)).map (Value.int .i64) := by
    rw [Nat.mul_one, List.map_replicate]
    simp only [madeCells, Array.toList_map, Array.toList_range]
    refine List.eq_replicate_iff.2 ⟨by simp, fun x hx => ?_⟩
    obtain ⟨j, _, rfl⟩ := List.mem_map.1 hx
    have e1 : (Value.int .i64 0).cells.size = 1 := rfl
    rw [e1, Nat.mod_one]
    rfl
  rw [e] at h
  exact h
theorem made_below {w w1 : World} (h : w.grownBy w1 none) : Below w.heap.size w w1 := (Below.refl _ _).grown h (Nat.le_refl _) (fun k hk => by cases hk)
set_option maxHeartbeats 1000000 in
set_option maxRecDepth 100000 in
theorem grow_nil (n : Nat) (w : World) (h1 : 1 ≤ n) (h2 : n ≤ 1000) :
    Calls Tryd.prog 20 #[.slice none 0 0, .int .i64 n] w fun e w' => ∃ c : Nat, e = .returned (.slice (some ⟨w.heap.size, 0, none⟩) 0 c) ∧ w'.ownsRow w.heap.size 2 1 (.slice (some ⟨w.heap.size, 0, none⟩) 0 c) 0 [] ∧ Below w.heap.size w w' := by
  obtain ⟨i0, hi, hz0, hz1, hz2⟩ := info_parts info64
  have hrz : ∀ ty, (Builtin.append_ #[28, 3] ty #[.slice none 0 0, .int .i64 n]).run Tryd.prog w =
      .ok (.slice (some ⟨w.heap.size, 0, none⟩) n (grownCap w n 0 2)) (w.drew.alloc (.cells (([] : List Value).toArray ++ Builtin.zeroCells (Value.int .i64 0).cells n ++ Builtin.zeroCells (Value.int .i64 0).cells (grownCap w n 0 2 - n)) 2)) := fun ty => by
    have h := Lib.run_append_grow_zeros w 28 3 ty 2 i0 (.int .i64 0) .i64 .i64 Tryd.underlying28 Tryd.underlying3 hi hz0 none 0 0 [] (run_firstCells_none w.drew i0.size 0 0 0) n (by omega) (by omega) (by omega) (by omega)
      (by rw [hz2]; omega) (by rw [Nat.zero_add, hz2]; exact growslice_fits (need := n) (old := 0) (bytes := 8) (by omega) (by omega))
    rw [Nat.zero_add] at h
    exact h
  have hG1 : n ≤ grownCap w n 0 2 := grownCap_ge w _ _ _
  have hG2 : grownCap w n 0 2 ≤ 9223372036854775807 := by
    have := grownCap_le_maxLen w n 0 2 (by unfold maxLen; omega)
    unfold maxLen at this
    exact this
  generalize grownCap w n 0 2 = G at *
  go_enter Tryd.func20, Tryd.ntmps20
  go_wp2_with (at_builtin; refine Lib.wpList_append_run _ rfl _ _ _ _ rfl _ _ rfl rfl _ _ (hrz _) ?_)
  go_ret
  refine ⟨G, rfl, ⟨by simp, .inr ⟨w.heap.size, G, _, rfl, Nat.le_refl _, heap_alloc_new _ _, by omega, by unfold maxLen; omega, ?_, by simp⟩⟩, ?_⟩
  · simp [size_zeroCells]
    omega
  · exact below_drewN (Below.refl _ _) 1 |>.alloc (by simp) _
def Three (n m : Nat) (s i : Value) : Prop := (i = .int .i64 0 ∧ s = .int .i64 0) ∨ (i = .int .i64 1 ∧ s = .int .i64 n) ∨ (i = .int .i64 2 ∧ s = .int .i64 ((n : Int) + m))
def Cells (w : World) (b o : Nat) (xs : List Int) : Prop := b < w.heap.size ∧ ∀ i, i < xs.length → w.cell? ⟨b, o + i, none⟩ = some (.int .i64 (xs.getD i 0))
theorem Cells.below {w w' : World} {b o : Nat} {xs : List Int} (h : Cells w b o xs) (g : Below w.heap.size w w') : Cells w' b o xs :=
  ⟨Nat.lt_of_lt_of_le h.1 g.size, fun i hi => (g.cell (p := ⟨b, o + i, none⟩) h.1).trans (h.2 i hi)⟩
theorem Cells.at {w : World} {b o : Nat} {xs : List Int} (h : Cells w b o xs) : ∀ j u, (xs.map (Value.int .i64))[j]? = some u → w.cell? ((⟨b, o, none⟩ : Addr).add j) = some u := fun j u hj => by
  rw [List.getElem?_map] at hj
  obtain ⟨z, hz, rfl⟩ := Option.map_eq_some_iff.1 hj
  obtain ⟨hl, rfl⟩ := List.getElem?_eq_some_iff.1 hz
  have e : (⟨b, o, none⟩ : Addr).add j = ⟨b, o + j, none⟩ := by cases j <;> simp [Addr.add]
  rw [e]
  simpa [List.getD, hl] using h.2 j hl
theorem oneCells {xs : List Int} : ∀ u ∈ xs.map (Value.int .i64), u.oneCell' = true := fun u hu => by
  obtain ⟨z, _, rfl⟩ := List.mem_map.1 hu
  rfl

theorem app_step0 {w0 w w1 : World} {e n : Nat} {v : Value} {xs : List Value} (h : Below w0.heap.size w0 w) (hown : w.ownsRow w0.heap.size e 1 v n xs) (hg : w.grownBy w1 v.ownBlock) : Below w0.heap.size w0 w1 :=
  h.grown hg h.size (fun k hk => (hown.lt k hk).1)
def Run (w : World) (n m : Nat) (xs ys : List Int) (v i : Value) (wr : World) : Prop := ∃ (k len c : Nat) (ao : Option Addr) (zs : List Int), i = .int .i64 k ∧ v = .slice ao len c ∧ wr.ownsRow w.heap.size 2 1 (.slice ao len c) len (zs.map (Value.int .i64)) ∧ Below w.heap.size w wr ∧ ((k = 0 ∧ len = 0 ∧ zs = []) ∨ (k = 1 ∧ len = n ∧ zs = xs) ∨ (k = 2 ∧ len = n + m ∧ zs = xs ++ ys))
set_option maxHeartbeats 1000000 in
set_option maxRecDepth 100000 in
theorem concat2 (q b1 o1 c1 b2 o2 c2 : Nat) (xs ys : List Int) (w : World) (hq1 : w.cell? ⟨q, 0, none⟩ = some (.slice (some ⟨b1, o1, none⟩) xs.length c1)) (hq2 : w.cell? ⟨q, 1, none⟩ = some (.slice (some ⟨b2, o2, none⟩) ys.length c2)) (hqb : q < w.heap.size)
    (hx : Cells w b1 o1 xs) (hy : Cells w b2 o2 ys) (h1 : 1 ≤ xs.length + ys.length) (h2 : xs.length + ys.length ≤ 1000) :
    Calls Tryd.prog 12 #[.slice (some ⟨q, 0, none⟩) 2 2] w fun e w' => ∃ v, e = .returned v ∧ Sl w' w.heap.size v (xs ++ ys) ∧ Below w.heap.size w w' := by
  obtain ⟨i0, hi, hz0, hz1, hz2⟩ := info_parts info64
  have HX := Lib.hid hx
  have HY := Lib.hid hy
  obtain ⟨n, hn⟩ : ∃ n, xs.length = n := ⟨_, rfl⟩
  obtain ⟨m, hm⟩ : ∃ m, ys.length = m := ⟨_, rfl⟩
  rw [hn] at hq1 h1 h2
  rw [hm] at hq2 h1 h2
  have HN := Lib.hid hn
  have HM := Lib.hid hm
  clear hx hy hn hm
  have GR := Lib.hid (fun w => grow_nil (n + m) w h1 h2)
  go_enter Tryd.func12, Tryd.ntmps12
  go_wp2_with fail
  go_loop [3, 11] (Three n m) (fun _ i => 2 - (intOf i).toNat)
  case atStart => exact .inl ⟨rfl, rfl⟩
  case round =>
    rcases hrel with ⟨rfl, rfl⟩ | ⟨rfl, rfl⟩ | ⟨rfl, rfl⟩
    · go_wp2_with fail
      go_round
      case rel => exact .inr (.inl ⟨by go_num, by go_num⟩)
      case measure => simp [intOf]
    · go_wp2_with fail
      go_round
      case rel => exact .inr (.inr ⟨by go_num, by go_num⟩)
      case measure => simp [intOf]
    · go_wp2_with fail
      refine (GR.out _).mono ?_; rintro e w1 ⟨c, rfl, ho, hb⟩
      have HO := Lib.hid ho
      have HB := Lib.hid hb
      have HQ1 := Lib.hid (fun (wr : World) (h : Below w.heap.size w wr) => (h.cell (p := ⟨q, 0, none⟩) hqb).trans hq1)
      have HQ2 := Lib.hid (fun (wr : World) (h : Below w.heap.size w wr) => (h.cell (p := ⟨q, 1, none⟩) hqb).trans hq2)
      clear ho hb hq1 hq2
      go_wp2_with fail
      go_loopw [6, 27] (Run w n m xs ys) (fun _ i _ => 2 - (intOf i).toNat)
      case atStart => exact ⟨0, 0, c, _, [], rfl, rfl, HO.out, HB.out, .inl ⟨rfl, rfl, rfl⟩⟩
      case round =>
        obtain ⟨k, len, c, ao, zs, rfl, rfl, ho, hb, hz⟩ := hrel
        have HO := Lib.hid ho
        have HB := Lib.hid hb
        have hq1 := HQ1.out _ hb
        have hq2 := HQ2.out _ hb
        clear ho hb
        rcases hz with ⟨hk, hl, hz⟩ | ⟨hk, hl, hz⟩ | ⟨hk, hl, hz⟩
        · subst hk
          subst hl
          obtain rfl : zs = [] := hz
          go_wp2_with (at_builtin; refine wpList_append_own _ rfl _ _ 28 rfl w.heap.size 2 i0 (.int .i64 0) 1 8 Tryd.underlying28 hi hz0 hz1 hz2 rfl (by decide) _ _ _ rfl HO.out ⟨b1, o1, none⟩ n c1 (xs.map (Value.int .i64)) rfl ?c1 (HX.out.below HB.out).at oneCells ?c3 ?c4 ?c5 ?c6)
          case c1 => first | exact HN.out | rw [List.length_map, HN.out, Nat.mul_one]
          case c3 => unfold maxLen; omega
          case c4 => omega
          case c5 => exact HB.out.size
          intro v' w9 hown' hgrow hnil'
          obtain ⟨ao', c', rfl⟩ := own_shape hown'
          have HO9 := Lib.hid hown'
          have HB9 := Lib.hid (app_step0 HB.out HO.out hgrow)
          clear hown' hgrow hnil'
          go_wp2_with fail
          go_roundw
          case rel => exact ⟨1, _, c', ao', xs, rfl, rfl, by show World.ownsRow _ _ _ _ _ _ _; first | exact HO9.out | (rw [List.map_append]; exact HO9.out), HB9.out, .inr (.inl ⟨rfl, by omega, rfl⟩)⟩
          case measure => simp [intOf]
        · subst hk
          obtain rfl : len = n := hl
          obtain rfl : xs = zs := hz.symm
          go_wp2_with (at_builtin; refine wpList_append_own _ rfl _ _ 28 rfl w.heap.size 2 i0 (.int .i64 0) 1 8 Tryd.underlying28 hi hz0 hz1 hz2 rfl (by decide) _ _ _ rfl HO.out ⟨b2, o2, none⟩ m c2 (ys.map (Value.int .i64)) rfl ?d1 (HY.out.below HB.out).at oneCells ?d3 ?d4 ?d5 ?d6)
          case d1 => first | exact HM.out | rw [List.length_map, HM.out, Nat.mul_one]
          case d3 => unfold maxLen; omega
          case d4 => omega
          case d5 => exact HB.out.size
          intro v' w9 hown' hgrow hnil'
          obtain ⟨ao', c', rfl⟩ := own_shape hown'
          have HO9 := Lib.hid hown'
          have HB9 := Lib.hid (app_step0 HB.out HO.out hgrow)
          clear hown' hgrow hnil'
          go_wp2_with fail
          go_roundw
          case rel => exact ⟨2, _, c', ao', xs ++ ys, rfl, rfl, by show World.ownsRow _ _ _ _ _ _ _; first | exact HO9.out | (rw [List.map_append]; exact HO9.out), HB9.out, .inr (.inr ⟨rfl, rfl, rfl⟩)⟩
          case measure => simp [intOf]
        · subst hk
          obtain rfl : zs = xs ++ ys := hz
          have HS := Lib.hid (sl_of_own HO.out (by rw [List.length_append, HN.out, HM.out]; omega))
          go_wp2_with fail
          go_ret
          exact ⟨_, rfl, HS.out, HB.out⟩
end Go.Proofs.YtfnmomdjmhbffaaDoor.Concats
