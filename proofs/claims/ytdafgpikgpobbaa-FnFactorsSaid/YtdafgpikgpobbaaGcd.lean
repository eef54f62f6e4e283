/-
  Contracts of the reference's l01Factor and of the program's commonFactor: both give the greatest common divisor.
  Conditions: both arguments lie in 0 .. 2^63 - 1.
-/
import Derived.Test.YtdafgpikgpobbaaBase
import Derived.WalkKit
import Derived.ProofKit
import Derived.Below
import Derived.IntWalk
import Derived.Lib.Hide
import Derived.Deep.QuietTactic
import Derived.BigQuiet
namespace Go.Proofs.Ytdafgpikgpobbaa.Gcd
open Go.RowKit
set_option linter.unusedVariables false

/-- The greatest common divisor of two numbers of at least 0. -/
def cf (a b : Int) : Int := ((Nat.gcd a.toNat b.toNat : Nat) : Int)

theorem cf_zero (a : Int) (h : 0 ≤ a) : cf a 0 = a := by
  unfold cf
  rw [show (0 : Int).toNat = 0 from rfl, Nat.gcd_zero_right]
  omega

theorem cf_step (a b : Int) (ha : 0 ≤ a) (hb : 0 < b) : cf b (a % b) = cf a b := by
  obtain ⟨x, rfl⟩ := Int.eq_ofNat_of_zero_le ha
  obtain ⟨y, rfl⟩ := Int.eq_ofNat_of_zero_le (Int.le_of_lt hb)
  unfold cf
  rw [show ((x : Int) % (y : Int)).toNat = x % y from by rw [← Int.natCast_emod]; rfl, Int.toNat_natCast, Int.toNat_natCast, Nat.gcd_comm x y, Nat.gcd_rec y x, Nat.gcd_comm]

theorem cf_nonneg (a b : Int) : 0 ≤ cf a b := by unfold cf; omega

theorem mod_lt (a b : Int) (ha : 0 ≤ a) (hb : 0 < b) : 0 ≤ a % b ∧ a % b < b := ⟨Int.emod_nonneg _ (by omega), Int.emod_lt_of_pos _ hb⟩

theorem l01Factor_any (k : Nat) : ∀ (a b : Int) (w : World), b < k → 0 ≤ a → a ≤ 9223372036854775807 → 0 ≤ b → b ≤ 9223372036854775807 →
    Calls Try.prog 66 #[.int .i64 a, .int .i64 b] w fun e w' => e = .returned (.int .i64 (cf a b)) ∧ w = w' := by
  induction k with
  | zero => intro a b w h1 h2 h3 h4; omega
  | succ k ih =>
    intro a b w hk ha ha2 hb hb2
    by_cases h0 : b = 0
    · subst h0
      have H := Lib.hid (cf_zero a ha)
      go_enter Try.func66, Try.ntmps66
      go_wp2_with fail
      go_ret
      exact ⟨Base.ret_int H.out.symm, rfl⟩
    · have hpos : 0 < b := by omega
      have H := Lib.hid (cf_step a b ha hpos)
      obtain ⟨m1, m2⟩ := mod_lt a b ha hpos
      clear h0
      go_enter Try.func66, Try.ntmps66
      go_wp2_with (go_at_call 66; refine (ih b (a % b) _ (by omega) (by omega) (by omega) (by omega) (by omega)).mono ?_; rintro e w' ⟨rfl, rfl⟩)
      go_ret
      exact ⟨Base.ret_int H.out, rfl⟩

theorem factor_any (a b : Int) (w : World) (ha : 0 ≤ a) (ha2 : a ≤ 9223372036854775807) (hb : 0 ≤ b) (hb2 : b ≤ 9223372036854775807) :
    Calls Try.prog 66 #[.int .i64 a, .int .i64 b] w fun e w' => e = .returned (.int .i64 (cf a b)) ∧ w = w' :=
  l01Factor_any (b.toNat + 1) a b w (by omega) ha ha2 hb hb2

theorem commonFactor_any (a b : Int) (w : World) (ha : 0 ≤ a) (ha2 : a ≤ 9223372036854775807) (hb : 0 ≤ b) (hb2 : b ≤ 9223372036854775807) :
    Calls Try.prog 64 #[.int .i64 a, .int .i64 b] w fun e w' => e = .returned (.int .i64 (cf a b)) ∧ ∃ n, w' = w.drewN n := by
  go_enter Try.func64, Try.ntmps64
  go_wp2
  go_loopw [0, 1] (fun u v wr => ∃ (x y : Int) (n : Nat), 0 ≤ x ∧ x ≤ 9223372036854775807 ∧ 0 ≤ y ∧ y ≤ 9223372036854775807 ∧ u = .int .i64 x ∧ v = .int .i64 y ∧ Hid (cf x y = cf a b) ∧ wr = w.drewN n) (fun _ v _ => (intOf v).toNat)
  case atStart => exact ⟨a, b, 0, ha, ha2, hb, hb2, rfl, rfl, rfl, rfl⟩
  case round =>
    obtain ⟨x, y, n, hx, hx2, hy, hy2, rfl, rfl, H, rfl⟩ := hrel
    by_cases h0 : y = 0
    · subst h0
      have Z := Lib.hid (cf_zero x hx)
      go_wp2
      go_ret
      exact ⟨Base.ret_int (Z.out.symm.trans H.out), n, rfl⟩
    · have hpos : 0 < y := by omega
      have S := Lib.hid (cf_step x y hx hpos)
      obtain ⟨m1, m2⟩ := mod_lt x y hx hpos
      clear h0
      go_wp2
      go_quiet (fail)
      go_wp2
      go_roundw
      case rel => exact ⟨y, x % y, _, by omega, by omega, by omega, by omega, rfl, rfl, S.out.trans H.out, World.drewN_drewN ..⟩
      case measure => simp [intOf]; omega
end Go.Proofs.Ytdafgpikgpobbaa.Gcd
