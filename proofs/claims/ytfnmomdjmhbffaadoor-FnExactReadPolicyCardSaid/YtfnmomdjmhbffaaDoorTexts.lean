/-
  Contracts of the reference's l01Dec: the decimal text of a number of at least 0.
  Conditions: the number fits int64.
-/
import Derived.Test.YtfnmomdjmhbffaaDoorMem
import Derived.Laws.BytesArg
import Derived.Lib.ItoaNum
import Derived.Lib.ItoaLen
import Derived.Lib.ItoaMem
import Derived.Laws.Concat
import Derived.Deep.RegionHeld3
import Derived.Deep.RegionWith
namespace Go.Proofs.YtfnmomdjmhbffaaDoor.Texts
open Go.RowKit Mem
set_option linter.unusedVariables false

/-- A text out of its bytes. -/
def S (l : List UInt8) : ByteArray := ⟨l.toArray⟩
theorem S_size (l : List UInt8) : (S l).size = l.length := by simp [S, ByteArray.size]
theorem S_list (l : List UInt8) : (S l).data.toList = l := by simp [S]
theorem S_eq (s : ByteArray) : S s.data.toList = s := rfl
theorem add_str (a b : ByteArray) (x y : List UInt8) (ha : a = S x) (hb : b = S y) (h : x.length + y.length ≤ 9223372036854775807) (w : World) : (Op.stringOp .add a b).run Tryd.prog w = .ok (.string (S (x ++ y))) w := by
  subst ha hb
  rw [run_string_add_sum (P := Tryd.prog) (w := w) (S x) (S y) (by rw [S_size, S_size]; exact h)]
  unfold S
  rw [ByteArray.mk_append_mk]
/-- Two texts in a row, under a new name. -/
theorem cat (m : Nat) (a b : ByteArray) (x y : List UInt8) (ha : a = S x) (hb : b = S y) (h : x.length + y.length ≤ m) (hm : m ≤ 9223372036854775807) :
    ∃ z, Hid (z = x ++ y) ∧ z.length ≤ m ∧ ∀ w, (Op.stringOp .add a b).run Tryd.prog w = .ok (.string (S z)) w :=
  ⟨_, rfl, by simp; omega, fun w => add_str a b x y ha hb (by omega) w⟩
theorem dec_len (n : Nat) (h : n ≤ 9223372036854775807) : (Lib.decDigits n).length ≤ 20 := by
  rw [Lib.decDigits_length]; exact Lib.nDigits_le20 n (by omega)

/-- A byte's slice as a string. -/
theorem one_byte (c : Nat) (hc : c ≤ 255) (w : World) (b : Nat) (h : w.cell? ⟨b, 0, none⟩ = some (.int .u8 (c : Int))) :
    (convert 72 9 (.slice (some ⟨b, 0, none⟩) 1 1)).run Tryd.prog w = .ok (.string (S [UInt8.ofNat c])) w := by
  have := run_convert_bytes_arg (P := Tryd.prog) w 72 5 Tryd.underlying72 Tryd.underlying5 b 0 1 1 [(c : Int)] rfl (fun i hi => by
    obtain rfl : i = 0 := by omega
    exact h) 9 Tryd.underlying9
  rw [this]
  rfl

set_option maxHeartbeats 1000000 in
set_option maxRecDepth 100000 in
theorem dec_any (k : Nat) : ∀ (n : Nat) (w : World), n < k → n ≤ 9223372036854775807 →
    Calls Tryd.prog 41 #[.int .i64 (n : Int)] w fun e w' => e = .returned (.string (S (Lib.decDigits n))) ∧ Below w.heap.size w w' := by
  induction k with
  | zero => intro n w h1 h2; omega
  | succ k ih =>
    intro n w hk hn
    by_cases h10 : n < 10
    · have E : Hid (Lib.decDigits n = [UInt8.ofNat (48 + n)]) := by show _ = _; rw [Lib.decDigits, dif_pos h10]
      have OB := fun (w' : World) (b : Nat) => one_byte (48 + n) (by omega) w' b
      have hni : (n : Int) < 10 := by omega
      generalize UInt8.ofNat (48 + n) = c8 at *
      clear ih hk
      go_enter Tryd.func41, Tryd.ntmps41
      go_wp2_with fail
      go_ret
      exact ⟨Base.ret_string (by rw [E.out]), b0 _ _⟩
    · have E : Hid (Lib.decDigits n = Lib.decDigits (n / 10) ++ [UInt8.ofNat (48 + n % 10)]) := by show _ = _; rw [Lib.decDigits, dif_neg h10]
      have OB : ∀ (w' : World) (b : Nat), w'.cell? ⟨b, 0, none⟩ = some (.int .u8 (48 + (n : Int) % 10)) → (convert 72 9 (.slice (some ⟨b, 0, none⟩) 1 1)).run Tryd.prog w' = .ok (.string (S [UInt8.ofNat (48 + n % 10)])) w' :=
        fun w' b h => one_byte (48 + n % 10) (by omega) w' b (by rw [h]; rfl)
      have hni : 10 ≤ (n : Int) := by omega
      have hnm : (n : Int) ≤ 9223372036854775807 := by omega
      have q1 : IntKind.i64.wrap ((n : Int) / 10) = (n : Int) / 10 := IntWalk.i64_in _ (by omega)
      have q2 : IntKind.i64.wrap (48 + (n : Int) % 10) = 48 + (n : Int) % 10 := IntWalk.i64_in _ (by omega)
      have q3 : (n : Int).tmod 10 = (n : Int) % 10 := Int.tmod_eq_emod_of_nonneg (by omega)
      have q4 : IntKind.u8.wrap (48 + (n : Int) % 10) = 48 + (n : Int) % 10 := by
        have : 0 ≤ (n : Int) % 10 ∧ (n : Int) % 10 < 10 := by omega
        generalize (n : Int) % 10 = d at *
        simp [IntKind.wrap, IntKind.signed, IntKind.bits]; omega
      have IH := Lib.hid (fun w => ih (n / 10) w (by omega) (by omega))
      rw [Int.natCast_ediv] at IH
      generalize UInt8.ofNat (48 + n % 10) = c8 at *
      clear ih hk h10
      have hds := dec_len (n / 10) (by omega)
      generalize Lib.decDigits (n / 10) = ds at *
      have AD := add_str (S ds) (S [c8]) ds [c8] rfl rfl (by simp; omega)
      clear hds
      go_enter Tryd.func41, Tryd.ntmps41
      go_wp2_with fail
      go_region_with (go_at_call 41; refine (IH.out _).mono ?_; rintro e w1 ⟨rfl, hb⟩; obtain ⟨hcl, hfl⟩ := bcell hb)
      all_goals
        go_wp2
        go_ret
        refine ⟨Base.ret_string (by rw [E.out]), ?_⟩
        first
          | exact (undrew hb).alloc hb.size _
          | exact bl (b0 _ _) (undrew hb)
          | exact bl (b0 _ _) hb

theorem dec (n : Int) (w : World) (h : 0 ≤ n) (h2 : n ≤ 9223372036854775807) : Calls Tryd.prog 41 #[.int .i64 n] w fun e w' => e = .returned (.string (S (Lib.itoa n))) ∧ Below w.heap.size w w' := by
  obtain ⟨k, rfl⟩ := Int.eq_ofNat_of_zero_le h
  rw [Lib.itoa_nonneg]
  exact dec_any (k + 1) k w (by omega) (by omega)
end Go.Proofs.YtfnmomdjmhbffaaDoor.Texts
