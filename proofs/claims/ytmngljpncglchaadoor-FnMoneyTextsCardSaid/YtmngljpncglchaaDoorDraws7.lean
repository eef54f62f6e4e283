/-
  Contracts of the reference's draws of texts: l01Damage and the draws that use it.
  Conditions: the code has at most 4096 bytes; the text is short.
-/
import Derived.Test.YtmngljpncglchaaDoorDraws3
import Derived.Test.YtmngljpncglchaaDoorTexts
import Derived.Deep.RegionWith
namespace Go.Proofs.YtmngljpncglchaaDoor.Draws
open Go.RowKit Mem Texts
set_option linter.unusedVariables false

/-- Some text was returned. -/
def TextOut (p : Nat) (n : Nat) (w : World) (e : Ending) (w' : World) : Prop := ∃ u : ByteArray, e = .returned (.string u) ∧ u.size ≤ n ∧ Src w' p ∧ w.grownBy w' (some p)
theorem ext_size (s : ByteArray) (a b : Nat) : (s.extract a b).size ≤ s.size := by simp; omega
/-- Two texts in a row, whatever they are. -/
theorem cat2 (m : Nat) (a b : ByteArray) (h : a.size + b.size ≤ m) (hm : m ≤ 9223372036854775807) : ∃ z : ByteArray, z.size ≤ m ∧ ∀ w, (Op.stringOp .add a b).run Tryd.prog w = .ok (.string z) w := by
  obtain ⟨z, _, hz, A⟩ := cat m a b a.data.toList b.data.toList rfl rfl (by simpa using h) hm
  exact ⟨S z, by rw [S_size]; exact hz, A⟩
def eight : List ByteArray := [⟨#[48]⟩, ⟨#[49]⟩, ⟨#[32]⟩, ⟨#[45]⟩, ⟨#[44]⟩, ⟨#[46]⟩, ⟨#[10]⟩, ⟨#[97]⟩]
theorem eight_at (k : Nat) (x1 : k < 8) (T : TypeId) : ∃ cx : ByteArray, cx.size ≤ 1 ∧ (∀ w : World, (w.alloc (.cells #[.string ⟨#[48]⟩, .string ⟨#[49]⟩, .string ⟨#[32]⟩, .string ⟨#[45]⟩, .string ⟨#[44]⟩, .string ⟨#[46]⟩, .string ⟨#[10]⟩, .string ⟨#[97]⟩] T)).cell? ⟨w.heap.size, k, none⟩ = some (.string cx)) := by
  have hk : k < eight.length := x1
  refine ⟨eight[k], ?_, fun w => ?_⟩
  · have : ∀ i (h : i < eight.length), eight[i].size ≤ 1 := by decide
    exact this k hk
  · refine cell_of_block (heap_alloc_new w _) ?_
    have e : (#[.string ⟨#[48]⟩, .string ⟨#[49]⟩, .string ⟨#[32]⟩, .string ⟨#[45]⟩, .string ⟨#[44]⟩, .string ⟨#[46]⟩, .string ⟨#[10]⟩, .string ⟨#[97]⟩] : Array Value) = (eight.map Value.string).toArray := rfl
    rw [e, List.getElem?_toArray, List.getElem?_map, List.getElem?_eq_getElem hk]; rfl

set_option maxRecDepth 100000 in
set_option maxHeartbeats 1000000 in
theorem damage_any (p : Nat) (t : ByteArray) (w : World) (h : Src w p) (ht : t.size ≤ 1000000) : Calls Tryd.prog 72 #[.pointer (some ⟨p, 0, none⟩), .string t] w (TextOut p (t.size + 1) w) := by
  have N1 := Lib.hid (next_lit p ((t.size : Int) + 1) w h (by omega) (by omega))
  have es := Lib.hid (ext_size t)
  go_enter Tryd.func72, Tryd.ntmps72
  go_wp2_with fail
  refine N1.out.mono ?_; rintro e w1 ⟨k, rfl, k0, k1, hs1, hg1⟩
  obtain ⟨k, rfl⟩ := Int.eq_ofNat_of_zero_le k0
  have hk : k ≤ t.size := by omega
  have HS1 := Lib.hid hs1
  have HG1 := Lib.hid hg1
  clear hs1 hg1 k0 k1
  go_wp2_with fail
  refine (next_lit p 8 w1 HS1.out (by omega) (by omega)).mono ?_; rintro e w2 ⟨d, rfl, d0, d1, hs2, hg2⟩
  have HS2 := Lib.hid hs2
  have HG2 := Lib.hid (grown_trans HG1.out hg2)
  clear hs2 hg2
  rcases (show d = 0 ∨ d = 1 ∨ d = 2 ∨ 2 < d by omega) with rfl | rfl | rfl | hd
  · go_wp2_with fail
    go_ret
    exact ⟨_, rfl, Nat.le_trans (es.out _ _) (Nat.le_succ _), HS2.out, HG2.out⟩
  · go_wp2_with fail
    have SA : Hid (∀ o, Src ((w2.alloc o).drew) p) := fun o => (HS2.out.below (b0 w2 o)).drewN 1
    have hp := HS2.out.lt
    have SD : Hid (Src w2.drew p) := HS2.out.drewN 1
    have E8 := Lib.hid (fun k x1 => eight_at k x1 9)
    have AA := Lib.hid (fun m a b h hm => cat2 m a b h hm)
    have hkz := Lib.hid (show (t.extract 0 k).size = k by simp; omega)
    have hkr := Lib.hid (show (t.extract k t.size).size = t.size - k by simp)
    go_region_with (first
      | (go_at_call 71; refine (next_lit p 8 _ (SA.out _) (by omega) (by omega)).mono ?_; rintro e w3 ⟨x, rfl, x0, x1, hs3, hg3⟩; obtain ⟨j, rfl⟩ := Int.eq_ofNat_of_zero_le x0; obtain ⟨cx, hcx, hE⟩ := E8.out j (by omega); have hcell : w3.cell? ⟨w2.heap.size, j, none⟩ = some (.string cx) := hg3.cell (hE w2) (by simp; omega); obtain ⟨z1, hz1, AD1⟩ := AA.out (k + 1) (t.extract 0 k) cx (by rw [hkz.out]; omega) (by omega); obtain ⟨z2, hz2, AD2⟩ := AA.out (t.size + 1) z1 (t.extract k t.size) (by rw [hkr.out]; omega) (by omega); have HS3 := Lib.hid hs3; have HG3 := Lib.hid hg3; have HZ2 := Lib.hid hz2; clear hs3 hg3 hE hcx hz1 hz2)
      | (go_at_call 71; refine (next_lit p 8 _ SD.out (by omega) (by omega)).mono ?_; rintro e w3 ⟨x, rfl, x0, x1, hs3, hg3⟩; obtain ⟨j, rfl⟩ := Int.eq_ofNat_of_zero_le x0; obtain ⟨cx, hcx, hE⟩ := E8.out j (by omega); have hcell := hE w3; obtain ⟨z1, hz1, AD1⟩ := AA.out (k + 1) (t.extract 0 k) cx (by rw [hkz.out]; omega) (by omega); obtain ⟨z2, hz2, AD2⟩ := AA.out (t.size + 1) z1 (t.extract k t.size) (by rw [hkr.out]; omega) (by omega); have HS3 := Lib.hid hs3; have HG3 := Lib.hid hg3; have HZ2 := Lib.hid hz2; clear hs3 hg3 hE hcx hz1 hz2))
    all_goals
      go_wp2
      go_ret
      first
        | exact ⟨z2, rfl, HZ2.out, HS3.out, grown_trans HG2.out (grown_trans (grown_trans (grown_of_below (b0 w2 _) _) (grown_drewN _ 1 _)) HG3.out)⟩
        | exact ⟨z2, rfl, HZ2.out, HS3.out.below (b0 w3 _), grown_trans (grown_trans HG2.out (grown_trans (grown_drewN _ 1 _) HG3.out)) (grown_of_below (b0 w3 _) _)⟩
  · by_cases hk2 : k < t.size
    · obtain ⟨z, hz, AD⟩ := cat2 (t.size + 1) (t.extract 0 k) (t.extract (k + 1) t.size) (by simp; omega) (by omega)
      have HZ := Lib.hid hz
      have q1 : IntKind.i64.wrap ((k : Int) + 1) = (k : Int) + 1 := IntWalk.i64_in _ (by omega)
      have q2 : ((k : Int) + 1).toNat = k + 1 := by omega
      have hki : (k : Int) < (t.size : Int) := by omega
      clear hz
      go_wp2_with fail
      go_quiet (fail)
      go_wp2_with fail
      go_ret
      exact ⟨z, rfl, HZ.out, HS2.out, grown_trans HG2.out (grown_drewN _ _ _)⟩
    · have hki : (t.size : Int) ≤ (k : Int) := by omega
      clear hk2
      go_wp2_with fail
      go_ret
      exact ⟨t, rfl, Nat.le_succ _, HS2.out, HG2.out⟩
  · have h3 : (d == 0) = false := beq_eq_false_iff_ne.2 (by omega)
    have h4 : (d == 1) = false := beq_eq_false_iff_ne.2 (by omega)
    have h5 : (d == 2) = false := beq_eq_false_iff_ne.2 (by omega)
    go_wp2_with fail
    go_ret
    exact ⟨t, rfl, Nat.le_succ _, HS2.out, HG2.out⟩
def TextDraw (w : World) (e : Ending) (w' : World) : Prop := ∃ u : ByteArray, e = .returned (.string u) ∧ u.size ≤ 1000 ∧ Below w.heap.size w w'
end Go.Proofs.YtmngljpncglchaaDoor.Draws
