/-
  Contracts of the library's exchange of ranges and rotation in a row that a sort owns.
  Conditions: as each contract says.
-/
import Derived.Test.YtenaeehefamdmaaSorts
import Derived.Test.YtenaeehefamdmaaSortPlain
namespace Go.Proofs.Ytenaeehefamdmaa.Sorts
open Go.Shelf Go.RowKit Go.Lib Go.Sort SortPlain
set_option linter.unusedVariables false
variable {α : Type} [Inhabited α]

theorem mixed : Try.prog.follows .mixedOrders = true := by kernel_rfl
set_option maxHeartbeats 16000000 in
set_option maxRecDepth 1000000 in
theorem swapRange_any (enc : α → Value) (blk off cap a b n lo hi : Nat) (d0 d : Array α) (w0 w : World) (fv : Value) (R : Row1 enc w0 blk off d0) (hs : d0.size = d.size) (S : SW enc w0 blk off d w)
    (hab : a + n ≤ b) (hb : b + n ≤ d.size) (hlo : lo ≤ a) (hhi : b + n ≤ hi) (hhi2 : hi ≤ d.size) (hsz : d.size < 4611686018427387904) :
    Calls Try.prog 60 #[.slice (some ⟨blk, off, none⟩) d.size cap, .int .i64 a, .int .i64 b, .int .i64 n, fv] w fun e w' => e = .returned (.tuple #[]) ∧ ∃ d', SW enc w0 blk off d' w' ∧ Swapped a b n d d' ∧ PermIn lo hi d d' := by
  have hmix := mixed
  have hst := R.hO.store Try.prog
  have hcl0 := R.hO.cells
  simp only [Value.cells] at hcl0
  have S0 : Aside (SW enc w0 blk off d w) := S
  clear S
  go_enter Try.func60, Try.ntmps60
  go_wp2
  go_loopg [10] n (fun g1 vi wr => ∃ (k : Nat) (dk : Array α), vi = .int .i64 k ∧ k ≤ n ∧ n - k ≤ g1 ∧ dk.size = d.size ∧ Aside (SW enc w0 blk off dk wr) ∧ Aside (Swapped a b k d dk) ∧ Aside (PermIn lo hi d dk))
  case atStart => exact ⟨0, d, by go_num, by omega, by omega, rfl, S0, swapped_zero a b d, permIn_refl _ _ _⟩
  case round =>
    clear S0
    obtain ⟨k, dk, rfl, hk, hg1, hsk, S1, HW, HP⟩ := hrel
    by_cases hlt : k < n
    · have hltz : (k : Int) < (n : Int) := by omega
      obtain ⟨iN, hiN⟩ : ∃ q, q = a + k := ⟨_, rfl⟩
      obtain ⟨jN, hjN⟩ : ∃ q, q = b + k := ⟨_, rfl⟩
      have ea : ((a : Int) + (k : Int)).toNat = iN := by omega
      have pa : (0 : Int) ≤ (a : Int) + (k : Int) := by omega
      have ba : (a : Int) + (k : Int) < (d.size : Int) := by omega
      have ra : IntKind.i64.wrap ((a : Int) + (k : Int)) = (a : Int) + (k : Int) := by rw [IntKind.wrap_i64]; omega
      have ec : ((b : Int) + (k : Int)).toNat = jN := by omega
      have pc : (0 : Int) ≤ (b : Int) + (k : Int) := by omega
      have bc : (b : Int) + (k : Int) < (d.size : Int) := by omega
      have rc : IntKind.i64.wrap ((b : Int) + (k : Int)) = (b : Int) + (k : Int) := by rw [IntKind.wrap_i64]; omega
      obtain ⟨x, hx⟩ : ∃ x, x = dk[a + k]! := ⟨_, rfl⟩
      obtain ⟨y, hy⟩ : ∃ x, x = dk[b + k]! := ⟨_, rfl⟩
      have S3 : Aside (SW enc w0 blk off (swp dk (a + k) (b + k)) ((wr.setCell ⟨blk, off + iN, none⟩ (enc y)).setCell ⟨blk, off + jN, none⟩ (enc x)).drew) := by rw [hiN, hjN, hx, hy]; exact S1.out.swapped R (a + k) (b + k) (by omega) (by omega)
      have ca := S1.out.c1 R (by omega) (a + k) (by omega)
      have cb := S1.out.c1 R (by omega) (b + k) (by omega)
      have fa := S1.out.f1 R (by omega) (a + k) (by omega)
      have fb := S1.out.f1 R (by omega) (b + k) (by omega)
      obtain ⟨u, cc⟩ := S1.out.c2 R (by omega) (a + k) (b + k) (by omega) (by omega) (enc y)
      rw [← hjN, ← hiN] at cc
      rw [← hx, ← hiN] at ca
      rw [← hy, ← hjN] at cb
      rw [← hiN] at fa
      rw [← hjN] at fb
      clear S1 hx hy hiN hjN
      go_wp2_with fail
      go_big_region_o
      clear ca cb cc fa fb ea ec
      generalize ((wr.setCell ⟨blk, off + iN, none⟩ (enc y)).setCell ⟨blk, off + jN, none⟩ (enc x)).drew = w3 at S3 ⊢
      go_wp2
      go_roundg (n - (k + 1))
      case measure => omega
      case rel => exact ⟨k + 1, swp dk (a + k) (b + k), by go_num, by omega, by omega, by rw [swp_size]; exact hsk, S3, swapped_step HW.out (by omega) (by omega), permIn_trans _ _ _ _ _ HP.out (swp_permIn dk lo hi _ _ (by omega) (by omega) (by omega) (by omega) (by omega))⟩
    · have hltz : ¬ (k : Int) < (n : Int) := by omega
      go_wp2
      go_end0
      obtain rfl : k = n := by omega
      exact ⟨rfl, dk, S1.out, HW.out, HP.out⟩

set_option maxHeartbeats 16000000 in
set_option maxRecDepth 1000000 in
theorem rotate_any (enc : α → Value) (blk off cap a m b lo hi : Nat) (d0 d : Array α) (w0 w : World) (fv : Value) (R : Row1 enc w0 blk off d0) (hs : d0.size = d.size) (S : SW enc w0 blk off d w)
    (ham : a < m) (hmb : m < b) (hb : b ≤ d.size) (hlo : lo ≤ a) (hhi : b ≤ hi) (hhi2 : hi ≤ d.size) (hsz : d.size < 4611686018427387904) :
    Calls Try.prog 59 #[.slice (some ⟨blk, off, none⟩) d.size cap, .int .i64 a, .int .i64 m, .int .i64 b, fv] w fun e w' => e = .returned (.tuple #[]) ∧ ∃ d', SW enc w0 blk off d' w' ∧ Rot a m b d d' ∧ PermIn lo hi d d' := by
  have S0 : Aside (SW enc w0 blk off d w) := S
  have SWP : Hid (∀ (dk : Array α) (wr : World), dk.size = d.size → SW enc w0 blk off dk wr → ∀ p q n : Nat, p + n ≤ q → q + n ≤ b → a ≤ p → Calls Try.prog 60 #[.slice (some ⟨blk, off, none⟩) d.size cap, .int .i64 p, .int .i64 q, .int .i64 n, fv] wr fun e w' => e = .returned (.tuple #[]) ∧ ∃ d', SW enc w0 blk off d' w' ∧ Swapped p q n dk d' ∧ PermIn lo hi dk d') := fun dk wr hsk h p q n h1 h2 h3 => by
    have := swapRange_any enc blk off cap p q n lo hi d0 dk w0 wr fv R (hs.trans hsk.symm) h h1 (by omega) (by omega) (by omega) (by omega) (by omega)
    rw [hsk] at this
    exact this
  clear S
  obtain ⟨i0, hi0⟩ : ∃ i, a + i = m := ⟨m - a, by omega⟩
  obtain ⟨j0, hj0⟩ : ∃ j, m + j = b := ⟨b - m, by omega⟩
  have e1 : (m : Int) - (a : Int) = (i0 : Int) := by omega
  have e2 : (b : Int) - (m : Int) = (j0 : Int) := by omega
  have HI0 := Lib.hid hi0
  have HJ0 := Lib.hid hj0
  have hi1 : 1 ≤ i0 := by omega
  have hj1 : 1 ≤ j0 := by omega
  clear hi0 hj0
  go_enter Try.func59, Try.ntmps59
  go_wp2_with fail
  go_loopg [10, 11] (i0 + j0) (fun g1 vi vj wr => ∃ (i j : Nat) (dk : Array α), vi = .int .i64 i ∧ vj = .int .i64 j ∧ 1 ≤ i ∧ 1 ≤ j ∧ i ≤ i0 ∧ j ≤ j0 ∧ i + j ≤ g1 ∧ dk.size = d.size ∧ Aside (SW enc w0 blk off dk wr) ∧ Aside (PermIn lo hi d dk) ∧ Aside (∀ D, Rot (m - i) m (m + j) dk D → Rot a m b d D))
  case atStart => exact ⟨i0, j0, d, rfl, rfl, hi1, hj1, Nat.le_refl _, Nat.le_refl _, Nat.le_refl _, rfl, S0, permIn_refl _ _ _, fun D h => by have := HI0.out; have := HJ0.out; rw [show m - i0 = a by omega, show m + j0 = b by omega] at h; exact h⟩
  case round =>
    clear S0 e1 e2
    obtain ⟨i, j, dk, rfl, rfl, ki, kj, li, lj, hg1, hsk, S1, HP, HD⟩ := hrel
    obtain ⟨p, hp⟩ : ∃ p, p + i = m := ⟨m - i, by have := HI0.out; omega⟩
    have ep : (m : Int) - (i : Int) = (p : Int) := by omega
    have HPi := Lib.hid hp
    have hap : a ≤ p := by have := HI0.out; omega
    have hbj : m + j ≤ b := by have := HJ0.out; omega
    clear hp
    rcases Nat.lt_trichotomy i j with hij | hij | hij
    · obtain ⟨q, hq⟩ : ∃ q, q + i = j := ⟨j - i, by omega⟩
      obtain ⟨r, hr⟩ : ∃ r, r = m + q := ⟨_, rfl⟩
      have eq1 : (m : Int) + (j : Int) - (i : Int) = (r : Int) := by omega
      have eq2 : (j : Int) - (i : Int) = (q : Int) := by omega
      have n1 : ((i : Int) == (j : Int)) = false := beq_eq_false_iff_ne.2 (by omega)
      have n2 : ((i : Int) != (j : Int)) = true := bne_iff_ne.2 (by omega)
      have n3 : ¬ (j : Int) < (i : Int) := by omega
      have HQ := Lib.hid hq
      have HRR := Lib.hid hr
      clear hq hr
      go_wp2_with fail
      refine (SWP.out dk wr hsk S1.out p r i (by have := HRR.out; have := HPi.out; omega) (by have := HRR.out; have := HQ.out; omega) hap).mono ?_
      rintro e w1 ⟨rfl, d1, hs1, hw1, hp1⟩
      have z1 : d1.size = d.size := hp1.1.trans hsk
      have S1' : Aside (SW enc w0 blk off d1 w1) := hs1
      have HP1 := Lib.hid (permIn_trans _ _ _ _ _ HP.out hp1)
      have HD1 : Hid (∀ D, Rot (m - i) m (m + q) d1 D → Rot a m b d D) := fun D h => HD.out D (by
        have h1 := HRR.out; have h2 := HQ.out; have h3 := HPi.out
        refine rot_lt (d' := d1) (by omega) (by omega) (by rw [hsk]; omega) ?_ ?_
        · rw [show m - i = p by omega, show m + j - i = r by omega]; exact hw1
        · rw [show j - i = q by omega]; exact h)
      clear hs1 hw1 hp1 S1 HD
      go_wp2
      go_roundg (i + q)
      case measure => have := HQ.out; omega
      case rel => exact ⟨i, q, d1, rfl, rfl, ki, by have := HQ.out; omega, li, by have := HQ.out; omega, Nat.le_refl _, z1, S1', HP1.out, HD1.out⟩
    · subst hij
      have n1 : ((i : Int) == (i : Int)) = true := by simp
      have n2 : ((i : Int) != (i : Int)) = false := by simp
      go_wp2_with fail
      refine (SWP.out dk wr hsk S1.out p m i (by have := HPi.out; omega) hbj hap).mono ?_
      rintro e w1 ⟨rfl, d1, hs1, hw1, hp1⟩
      have R1 : Hid (Rot a m b d d1) := HD.out d1 (by have h3 := HPi.out; exact rot_eq (by omega) (by rw [show m - i = p by omega]; exact hw1))
      have HP1 := Lib.hid (permIn_trans _ _ _ _ _ HP.out hp1)
      have S1' : Aside (SW enc w0 blk off d1 w1) := hs1
      clear hs1 hw1 hp1 S1 HD
      go_wp2
      go_end0
      exact ⟨rfl, d1, S1'.out, R1.out, HP1.out⟩
    · obtain ⟨q, hq⟩ : ∃ q, q + j = i := ⟨i - j, by omega⟩
      have eq2 : (i : Int) - (j : Int) = (q : Int) := by omega
      have n1 : ((i : Int) == (j : Int)) = false := beq_eq_false_iff_ne.2 (by omega)
      have n2 : ((i : Int) != (j : Int)) = true := bne_iff_ne.2 (by omega)
      have n3 : (j : Int) < (i : Int) := by omega
      have HQ := Lib.hid hq
      clear hq
      go_wp2_with fail
      refine (SWP.out dk wr hsk S1.out p m j (by have := HPi.out; omega) hbj hap).mono ?_
      rintro e w1 ⟨rfl, d1, hs1, hw1, hp1⟩
      have z1 : d1.size = d.size := hp1.1.trans hsk
      have S1' : Aside (SW enc w0 blk off d1 w1) := hs1
      have HP1 := Lib.hid (permIn_trans _ _ _ _ _ HP.out hp1)
      have HD1 : Hid (∀ D, Rot (m - q) m (m + j) d1 D → Rot a m b d D) := fun D h => HD.out D (by
        have h2 := HQ.out; have h3 := HPi.out
        refine rot_gt (d' := d1) (by omega) (by omega) (by rw [hsk]; omega) ?_ ?_
        · rw [show m - i = p by omega]; exact hw1
        · rw [show i - j = q by omega]; exact h)
      clear hs1 hw1 hp1 S1 HD
      go_wp2
      go_roundg (q + j)
      case measure => have := HQ.out; omega
      case rel => exact ⟨q, j, d1, rfl, rfl, by have := HQ.out; omega, kj, by have := HQ.out; omega, lj, Nat.le_refl _, z1, S1', HP1.out, HD1.out⟩
end Go.Proofs.Ytenaeehefamdmaa.Sorts
