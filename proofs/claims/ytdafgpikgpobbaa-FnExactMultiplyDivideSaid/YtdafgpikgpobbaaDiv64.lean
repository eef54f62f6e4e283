/-
  Contract of bits.Div64.
  Conditions: the divisor is greater than the high part.
-/
import Derived.Test.YtdafgpikgpobbaaDivPlain
import Derived.Test.YtdafgpikgpobbaaMem
import Derived.Test.YtdafgpikgpobbaaShelf
import Derived.Lib.ItoaNum
import Derived.Laws.Bits64b
import Derived.Deep.CutBlock
import Derived.Deep.DeepCutAuto
namespace Go.Proofs.Ytdafgpikgpobbaa.Div64
open Go.RowKit Mem DivPlain
set_option linter.unusedVariables false

theorem len_bd (y : Nat) (h : 0 < y) (h2 : y < 18446744073709551616) : 1 ≤ Lib.bitLen y ∧ Lib.bitLen y ≤ 64 ∧ 2 ^ (Lib.bitLen y - 1) ≤ y ∧ y < 2 ^ Lib.bitLen y := by
  have := Lib.bitLenAux_bounds 64 y (by simpa using h2) (by omega)
  refine ⟨this.1, ?_, this.2.1, this.2.2⟩
  rcases Nat.lt_or_ge 64 (Lib.bitLen y) with g | g
  · have h3 : (2 : Nat) ^ 64 ≤ 2 ^ (Lib.bitLen y - 1) := Nat.pow_le_pow_right (by omega) (by omega)
    have h4 : 2 ^ (Lib.bitLen y - 1) ≤ y := this.2.1
    omega
  · exact g

theorem div64_zero (lo y : Nat) (w : World) (hl : lo < 18446744073709551616) (hy : 0 < y) (hy2 : y < 18446744073709551616) :
    Calls Try.prog 104 #[.int .u64 0, .int .u64 lo, .int .u64 y] w fun e w' => e = .returned (.tuple #[.int .u64 ((lo / y : Nat) : Int), .int .u64 ((lo % y : Nat) : Int)]) ∧ Below w.heap.size w w' := by
  have hy1 : (1 : Int) ≤ (y : Int) := by omega
  have hy0 : ((y : Int) == 0) = false := beq_eq_false_iff_ne.2 (by omega)
  have q1 : IntKind.u64.wrap ((lo : Int) / (y : Int)) = ((lo / y : Nat) : Int) := by
    rw [← Int.natCast_ediv]
    have : lo / y ≤ lo := Nat.div_le_self _ _
    generalize lo / y = d at *
    simp [IntKind.wrap, IntKind.signed, IntKind.bits]; omega
  have q2 : (lo : Int) % (y : Int) = ((lo % y : Nat) : Int) := (Int.natCast_emod lo y).symm
  go_enter Try.func104, Try.ntmps104
  go_wp2_with fail
  go_quiet (fail)
  go_wp2_with fail
  go_ret2
  exact ⟨by first | rfl | simp, bd _ _⟩

theorem wrap_nat (n : Nat) (h : n < 18446744073709551616) : IntKind.u64.wrap (n : Int) = (n : Int) := by
  simp [IntKind.wrap, IntKind.signed, IntKind.bits]; omega
theorem wrap_mul (a s : Nat) (h : a * 2 ^ s < 18446744073709551616) : IntKind.u64.wrap ((a : Int) * 2 ^ s) = ((a * 2 ^ s : Nat) : Int) := by
  have e : (a : Int) * 2 ^ s = ((a * 2 ^ s : Nat) : Int) := by push_cast; rfl
  rw [e]; exact wrap_nat _ h
theorem and_mask (n : Nat) (h : n < 18446744073709551616) : bits BinOp.and IntKind.u64 (n : Int) 4294967295 = ((n % 4294967296 : Nat) : Int) := by
  rw [show (4294967295 : Int) = ((4294967295 : Nat) : Int) from rfl, bits_and_u64_nat n 4294967295 h (by decide)]
  congr 1
  exact Nat.and_two_pow_sub_one_eq_mod n 32
theorem or_add (h l s : Nat) (hl : l < 2 ^ s) (hb : h * 2 ^ s + l < 18446744073709551616) : bits BinOp.or IntKind.u64 ((h * 2 ^ s : Nat) : Int) ((l : Nat) : Int) = ((h * 2 ^ s + l : Nat) : Int) := by
  rw [bits_or_u64_nat _ _ (by omega) (by omega), Nat.mul_comm h, Nat.two_pow_add_eq_or_of_lt hl]
theorem cdiv (x : Nat) : (x : Int) / 4294967296 = ((x / 4294967296 : Nat) : Int) := by omega
theorem cdivp (x k : Nat) : (x : Int) / 2 ^ k = ((x / 2 ^ k : Nat) : Int) := by first | (rw [Int.natCast_ediv]; done) | (rw [Int.natCast_ediv]; congr 1; done)
/-- The numbers of the long division, each under a name. -/
theorem names (hi lo y s : Nat) (hl : lo < 18446744073709551616) (hy : hi < y) (hs : s ≤ 63) (h1 : 9223372036854775808 ≤ y * 2 ^ s) (h2 : y * 2 ^ s < 18446744073709551616) :
    ∃ Y yn1 yn0 H L U T un1 un0 : Nat, IntKind.u64.wrap ((y : Int) * 2 ^ s) = (Y : Int) ∧ bits BinOp.and IntKind.u64 (Y : Int) 4294967295 = (yn0 : Int) ∧ (Y : Int) / 4294967296 = (yn1 : Int) ∧ IntKind.u64.wrap ((hi : Int) * 2 ^ s) = (H : Int) ∧ (lo : Int) / 2 ^ (64 - s) = (L : Int) ∧
      bits BinOp.or IntKind.u64 (H : Int) (L : Int) = (U : Int) ∧ IntKind.u64.wrap ((lo : Int) * 2 ^ s) = (T : Int) ∧ bits BinOp.and IntKind.u64 (T : Int) 4294967295 = (un0 : Int) ∧ (T : Int) / 4294967296 = (un1 : Int) ∧
      Y = y * 2 ^ s ∧ Y = yn1 * 4294967296 + yn0 ∧ yn0 < 4294967296 ∧ 2147483648 ≤ yn1 ∧ yn1 < 4294967296 ∧ U < Y ∧ un1 < 4294967296 ∧ un0 < 4294967296 ∧ (hi * 18446744073709551616 + lo) * 2 ^ s = (U * 4294967296 + un1) * 4294967296 + un0 := by
  have e64 : 2 ^ (64 - s) * 2 ^ s = 18446744073709551616 := by rw [← Nat.pow_add, Nat.sub_add_cancel (by omega)]
  have hL : lo / 2 ^ (64 - s) < 2 ^ s := Nat.div_lt_of_lt_mul (by rw [e64]; exact hl)
  have hH : (hi + 1) * 2 ^ s ≤ y * 2 ^ s := Nat.mul_le_mul_right _ hy
  rw [Nat.add_mul, Nat.one_mul] at hH
  have hHb : hi * 2 ^ s < 18446744073709551616 := Nat.lt_of_le_of_lt (Nat.le_trans (Nat.le_add_right _ _) hH) h2
  have hU : hi * 2 ^ s + lo / 2 ^ (64 - s) < y * 2 ^ s := Nat.lt_of_lt_of_le (Nat.add_lt_add_left hL _) hH
  have hsh := shifted hi lo s (by omega)
  have hT : lo * 2 ^ s % 18446744073709551616 < 18446744073709551616 := Nat.mod_lt _ (by decide)
  refine ⟨y * 2 ^ s, y * 2 ^ s / 4294967296, y * 2 ^ s % 4294967296, hi * 2 ^ s, lo / 2 ^ (64 - s), hi * 2 ^ s + lo / 2 ^ (64 - s), lo * 2 ^ s % 18446744073709551616, lo * 2 ^ s % 18446744073709551616 / 4294967296, lo * 2 ^ s % 18446744073709551616 % 4294967296, wrap_mul y s h2, and_mask _ h2, cdiv _, wrap_mul hi s hHb, cdivp _ _, or_add hi _ s hL (Nat.lt_trans hU h2), ?_, and_mask _ hT, cdiv _, rfl, (Nat.div_add_mod' _ _).symm, Nat.mod_lt _ (by decide), (Nat.le_div_iff_mul_le (by decide)).2 h1, Nat.div_lt_of_lt_mul h2, hU, Nat.div_lt_of_lt_mul hT, Nat.mod_lt _ (by decide), ?_⟩
  · have e : (lo : Int) * 2 ^ s = ((lo * 2 ^ s : Nat) : Int) := by push_cast; rfl
    rw [e]
    simp [IntKind.wrap, IntKind.signed, IntKind.bits]
  · rw [hsh]; omega

theorem wrapE (x : Int) : IntKind.u64.wrap x = x % 18446744073709551616 := by simp [IntKind.wrap, IntKind.signed, IntKind.bits]
/-- A remainder, as the machine reckons it. -/
theorem wrap_rem (U d Y : Nat) (h0 : 0 < Y) (hY : Y < 18446744073709551616) :
    ∃ a1 a2 p : Nat, IntKind.u64.wrap ((U : Int) * 4294967296) = (a1 : Int) ∧ IntKind.u64.wrap ((a1 : Int) + (d : Int)) = (a2 : Int) ∧ IntKind.u64.wrap ((((U * 4294967296 + d) / Y : Nat) : Int) * (Y : Int)) = (p : Int) ∧
      IntKind.u64.wrap ((a2 : Int) - (p : Int)) = (((U * 4294967296 + d) % Y : Nat) : Int) := by
  have e := Nat.div_add_mod' (U * 4294967296 + d) Y
  have l := Nat.mod_lt (U * 4294967296 + d) h0
  generalize (U * 4294967296 + d) % Y = R at e l ⊢
  have ec : (((U * 4294967296 + d) / Y : Nat) : Int) * (Y : Int) = (((U * 4294967296 + d) / Y * Y : Nat) : Int) := by rw [Int.natCast_mul]
  have ea : (U : Int) * 4294967296 = ((U * 4294967296 : Nat) : Int) := by omega
  rw [ec, ea]
  generalize (U * 4294967296 + d) / Y * Y = P at e ⊢
  generalize U * 4294967296 = A at e ⊢
  refine ⟨A % 18446744073709551616, (A % 18446744073709551616 + d) % 18446744073709551616, P % 18446744073709551616, ?_, ?_, ?_, ?_⟩
  all_goals (rw [wrapE]; omega)
/-- What a loop of the division keeps. -/
def Dg (U d Y yn1 yn0 Q : Nat) : Prop := Y = yn1 * 4294967296 + yn0 ∧ yn0 < 4294967296 ∧ 0 < Y ∧ U < Y ∧ d < 4294967296 ∧ (U * 4294967296 + d) / Y = Q
theorem Dg.next {U d Y yn1 yn0 Q q r : Nat} (D : Hid (Dg U d Y yn1 yn0 Q)) (hi : Hid (q * yn1 + r = U)) (hq : Hid (Q ≤ q)) (h : 4294967296 ≤ q ∨ 4294967296 * r + d < q * yn0) : Hid ((q - 1) * yn1 + (r + yn1) = U) ∧ Hid (Q ≤ q - 1) ∧ (q ≤ 4294967297 → 4294967296 ≤ r + yn1 → Q = q - 1) := by
  obtain ⟨d1, d2, d3, d4, d5, d6⟩ := D.out
  obtain ⟨a1, a2, a3⟩ := again U d Y yn1 yn0 q r d1 d4 d5 hi.out (by rw [d6]; exact hq.out) h
  refine ⟨Lib.hid a3, Lib.hid (by rw [d6] at a1; exact a1), fun hb hr => ?_⟩
  rw [← d6]
  exact leave U d Y yn1 yn0 (q - 1) (r + yn1) d1 d2 d3 a3 a1 (by omega) hr
theorem Dg.stop {U d Y yn1 yn0 Q q r : Nat} (D : Hid (Dg U d Y yn1 yn0 Q)) (hi : Hid (q * yn1 + r = U)) (hq : Hid (Q ≤ q)) (h : q * yn0 ≤ 4294967296 * r + d) : Q = q := by
  obtain ⟨d1, d2, d3, d4, d5, d6⟩ := D.out
  rw [← d6]
  exact DivPlain.stop U d Y yn1 yn0 q r d1 d3 hi.out (by rw [d6]; exact hq.out) h
/-- The guess, as the machine reckons it. -/
theorem Dg.start {U d Y yn1 yn0 Q : Nat} (D : Dg U d Y yn1 yn0 Q) (hY : Y < 18446744073709551616) (h1 : 2147483648 ≤ yn1) :
    ∃ q p r : Nat, (U : Int) / (yn1 : Int) = (q : Int) ∧ IntKind.u64.wrap ((q : Int) * (yn1 : Int)) = (p : Int) ∧ IntKind.u64.wrap ((U : Int) - (p : Int)) = (r : Int) ∧ q ≤ 4294967297 ∧ r < 4294967296 ∧ q * yn1 + r = U ∧ Q ≤ q ∧ Q < 4294967296 := by
  obtain ⟨d1, d2, d3, d4, d5, d6⟩ := D
  obtain ⟨g1, g2, g3, g4, g5⟩ := guess U d Y yn1 yn0 d1 d2 h1 d4 d5
  have hyn : yn1 < 4294967296 := by omega
  have e1 : (U : Int) / (yn1 : Int) = ((U / yn1 : Nat) : Int) := (Int.natCast_ediv _ _).symm
  rw [d6] at g1 g3
  generalize U / yn1 = q at g1 g2 g4 e1
  generalize U % yn1 = r at g4 g5
  refine ⟨q, q * yn1, r, e1, ?_, ?_, g2, by omega, g4, g1, g3⟩
  · rw [← Int.natCast_mul]; exact wrap_nat _ (by omega)
  · generalize q * yn1 = P at g4
    rw [wrapE]; omega

theorem reck (q r d y0 y1 : Nat) (hq : q ≤ 4294967297) (hr : r < 4294967296) (hy : y0 < 4294967296) (hy1 : y1 < 4294967296) (hd : d < 4294967296) :
    ∃ P B q' r' A : Nat, IntKind.u64.wrap ((r : Int) + (y1 : Int)) = (r' : Int) ∧ r' = r + y1 ∧ (1 ≤ q → IntKind.u64.wrap ((q : Int) - 1) = (q' : Int)) ∧ q' = q - 1 ∧ IntKind.u64.wrap (4294967296 * (r : Int)) = (A : Int) ∧
    (q < 4294967296 → IntKind.u64.wrap ((q : Int) * (y0 : Int)) = (P : Int)) ∧ P = q * y0 ∧ IntKind.u64.wrap ((A : Int) + (d : Int)) = (B : Int) ∧ B = 4294967296 * r + d := by
  refine ⟨q * y0, 4294967296 * r + d, q - 1, r + y1, 4294967296 * r, ?_, rfl, ?_, rfl, ?_, ?_, rfl, ?_, rfl⟩
  · rw [wrapE]; omega
  · intro h; rw [wrapE]; omega
  · rw [wrapE]; omega
  · intro h
    rw [← Int.natCast_mul]
    refine wrap_nat _ ?_
    have h1 : q * y0 ≤ 4294967295 * 4294967295 := Nat.mul_le_mul (by omega) (by omega)
    omega
  · rw [wrapE]; omega
set_option maxRecDepth 100000 in
set_option maxHeartbeats 1000000 in
theorem div64_try (hi lo y s : Nat) (w : World) (hl : lo < 18446744073709551616) (hh : 0 < hi) (hy : hi < y) (hy2 : y < 18446744073709551616) (hs : s ≤ 63) (h1 : 9223372036854775808 ≤ y * 2 ^ s) (h2 : y * 2 ^ s < 18446744073709551616)
    (HL : Hid (∀ w, Calls Try.prog 107 #[.int .u64 y] w fun e w' => e = .returned (.int .i64 (s : Int)) ∧ w = w')) :
    Calls Try.prog 104 #[.int .u64 hi, .int .u64 lo, .int .u64 y] w fun e w' => e = .returned (.tuple #[.int .u64 (((hi * 18446744073709551616 + lo) / y : Nat) : Int), .int .u64 (((hi * 18446744073709551616 + lo) % y : Nat) : Int)]) ∧ w = w' := by
  have hy0 : ((y : Int) == 0) = false := beq_eq_false_iff_ne.2 (by omega)
  have hh0 : ((hi : Int) == 0) = false := beq_eq_false_iff_ne.2 (by omega)
  have hlt : (hi : Int) < (y : Int) := by omega
  obtain ⟨Y, yn1, yn0, H, L, U, T, un1, un0, E1, E2, E3, E4, E5, E6, E7, E8, E9, F1, F2, F3, F4, F5, F6, F7, F8, F9⟩ := names hi lo y s hl hy hs h1 h2
  have hyn : (1 : Int) ≤ (yn1 : Int) := by omega
  have hYb : Y < 18446744073709551616 := by rw [F1]; exact h2
  have hYp : 0 < Y := by omega
  obtain ⟨Q1, hQ1⟩ : ∃ Q1, (U * 4294967296 + un1) / Y = Q1 := ⟨_, rfl⟩
  obtain ⟨R1, hR1⟩ : ∃ R1, (U * 4294967296 + un1) % Y = R1 := ⟨_, rfl⟩
  have hRl : R1 < Y := by rw [← hR1]; exact Nat.mod_lt _ hYp
  obtain ⟨Q2, hQ2⟩ : ∃ Q2, (R1 * 4294967296 + un0) / Y = Q2 := ⟨_, rfl⟩
  obtain ⟨R2, hR2⟩ : ∃ R2, (R1 * 4294967296 + un0) % Y = R2 := ⟨_, rfl⟩
  have DF := div_final (hi * 18446744073709551616 + lo) y s U un1 un0 (by omega) F9
  rw [← F1, hQ1, hR1, hQ2, hR2] at DF
  have W1 := wrap_rem U un1 Y hYp hYb
  rw [hQ1, hR1] at W1
  have W2 := wrap_rem R1 un0 Y hYp hYb
  rw [hQ2, hR2] at W2
  have D1 : Dg U un1 Y yn1 yn0 Q1 := ⟨F2, F3, hYp, F6, F7, hQ1⟩
  have D2 : Dg R1 un0 Y yn1 yn0 Q2 := ⟨F2, F3, hYp, hRl, F8, hQ2⟩
  obtain ⟨q0, p0, r0, s1, s2, s3, s4, s5, s6, s7, s8⟩ := D1.start hYb F4
  have ST := Lib.hid (D2.start hYb F4)
  replace D1 := Lib.hid D1
  replace D2 := Lib.hid D2
  replace W1 := Lib.hid W1
  replace W2 := Lib.hid W2
  replace DF := Lib.hid DF
  replace s6 := Lib.hid s6
  replace s7 := Lib.hid s7
  clear F1 F2 F9 hQ1 hR1 hQ2 hR2 h1 h2 hYb hYp hRl
  go_enter Try.func104, Try.ntmps104
  go_wp2_with fail
  refine (HL.out _).mono ?_; rintro e w' ⟨rfl, rfl⟩
  go_upto_block 0 with fail
  go_cut [15, 16] from 67 to 85 (fun qq rr wx => qq = .int .u64 (Q1 : Int) ∧ (∃ z : Int, rr = .int .u64 z) ∧ w = wx)
  case first =>
    go_wp2_with fail
    go_loop [15, 16] (fun qq rr => ∃ q r : Nat, qq = .int .u64 q ∧ rr = .int .u64 r ∧ q ≤ 4294967297 ∧ r < 4294967296 ∧ Hid (q * yn1 + r = U) ∧ Hid (Q1 ≤ q)) (fun qq _ => (intOf qq).toNat)
    case atStart => exact ⟨q0, r0, rfl, rfl, s4, s5, s6, s7⟩
    case round =>
      obtain ⟨q, r, rfl, rfl, hq, hr, HI, HQ⟩ := hrel
      obtain ⟨P, B, q', r', A, v1, v1', v2, v2', v3, u1, u2, u3, u4⟩ := reck q r un1 yn0 yn1 hq hr F3 F5 F7
      have V1 := Lib.hid v1
      have V1' := Lib.hid v1'
      have V2 := Lib.hid v2
      have V2' := Lib.hid v2'
      have V3 := Lib.hid v3
      have U1 := Lib.hid u1
      have U2 := Lib.hid u2
      have U3 := Lib.hid u3
      have U4 := Lib.hid u4
      clear v1 v2 v3 u1 u2 u3 u4 v1' v2'
      by_cases hg : 4294967296 ≤ q
      · have hgz : (4294967296 : Int) ≤ (q : Int) := by omega
        obtain ⟨m1, m2, m3⟩ := Dg.next D1 HI HQ (.inl hg)
        have v1 := V1.out
        have v2 := V2.out (by omega)
        rw [← V2'.out, ← V1'.out] at m1
        rw [← V2'.out] at m2
        rw [← V2'.out, ← V1'.out] at m3
        have m4 := Lib.hid m3
        clear m3
        by_cases hn : 4294967296 ≤ r'
        · have hnz : (4294967296 : Int) ≤ (r' : Int) := by omega
          go_wp2_with fail
          go_meet
          exact ⟨by rw [m4.out hq hn], ⟨_, rfl⟩, rfl⟩
        · have hnz : ¬ (4294967296 : Int) ≤ (r' : Int) := by omega
          go_wp2_with fail
          go_round
          case rel => exact ⟨q', r', rfl, rfl, by have := V2'.out; omega, by omega, m1, m2⟩
          case measure => have h1 := V2'.out; simp [intOf]; omega
      · have hgz : ¬ (4294967296 : Int) ≤ (q : Int) := by omega
        have u1 := U1.out (by omega)
        have u3 := U3.out
        have v3 := V3.out
        by_cases hb : B < P
        · have hbz : (B : Int) < (P : Int) := by omega
          have hq1 : 1 ≤ q := by have h1 := U2.out; rcases Nat.eq_zero_or_pos q with h0 | h0; (subst h0; rw [Nat.zero_mul] at h1; omega); exact h0
          obtain ⟨m1, m2, m3⟩ := Dg.next D1 HI HQ (.inr (by rw [← U2.out, ← U4.out]; exact hb))
          have v1 := V1.out
          have v2 := V2.out hq1
          rw [← V2'.out, ← V1'.out] at m1
          rw [← V2'.out] at m2
          rw [← V2'.out, ← V1'.out] at m3
          have m4 := Lib.hid m3
          clear m3
          by_cases hn : 4294967296 ≤ r'
          · have hnz : (4294967296 : Int) ≤ (r' : Int) := by omega
            go_wp2_with fail
            go_meet
            exact ⟨by rw [m4.out hq hn], ⟨_, rfl⟩, rfl⟩
          · have hnz : ¬ (4294967296 : Int) ≤ (r' : Int) := by omega
            go_wp2_with fail
            go_round
            case rel => exact ⟨q', r', rfl, rfl, by have := V2'.out; omega, by omega, m1, m2⟩
            case measure => have h1 := V2'.out; simp [intOf]; omega
        · have hbz : ¬ (B : Int) < (P : Int) := by omega
          go_wp2_with fail
          go_meet
          exact ⟨by rw [Dg.stop D1 HI HQ (by rw [← U2.out, ← U4.out]; omega)], ⟨_, rfl⟩, rfl⟩
  case rest =>
    obtain ⟨rfl, ⟨z1, rfl⟩, rfl⟩ := hcut
    obtain ⟨w1, w2, w3, w4, w5, w6, w7⟩ := W1.out
    obtain ⟨q2, p2, r2, t1, t2, t3, t4, t5, t6, t7, t8⟩ := ST.out
    have T6 := Lib.hid t6
    have T7 := Lib.hid t7
    clear t6 t7
    go_upto_block 2 with fail
    go_cut [18, 16] from 102 to 120 (fun qq rr wx => qq = .int .u64 (Q2 : Int) ∧ (∃ z : Int, rr = .int .u64 z) ∧ w = wx)
    case first =>
      go_wp2_with fail
      go_loop [18, 16] (fun qq rr => ∃ q r : Nat, qq = .int .u64 q ∧ rr = .int .u64 r ∧ q ≤ 4294967297 ∧ r < 4294967296 ∧ Hid (q * yn1 + r = R1) ∧ Hid (Q2 ≤ q)) (fun qq _ => (intOf qq).toNat)
      case atStart => exact ⟨q2, r2, rfl, rfl, t4, t5, T6, T7⟩
      case round =>
        obtain ⟨q, r, rfl, rfl, hq, hr, HI, HQ⟩ := hrel
        obtain ⟨P, B, q', r', A, v1, v1', v2, v2', v3, u1, u2, u3, u4⟩ := reck q r un0 yn0 yn1 hq hr F3 F5 F8
        have V1 := Lib.hid v1
        have V1' := Lib.hid v1'
        have V2 := Lib.hid v2
        have V2' := Lib.hid v2'
        have V3 := Lib.hid v3
        have U1 := Lib.hid u1
        have U2 := Lib.hid u2
        have U3 := Lib.hid u3
        have U4 := Lib.hid u4
        clear v1 v2 v3 u1 u2 u3 u4 v1' v2'
        by_cases hg : 4294967296 ≤ q
        · have hgz : (4294967296 : Int) ≤ (q : Int) := by omega
          obtain ⟨m1, m2, m3⟩ := Dg.next D2 HI HQ (.inl hg)
          have v1 := V1.out
          have v2 := V2.out (by omega)
          rw [← V2'.out, ← V1'.out] at m1
          rw [← V2'.out] at m2
          rw [← V2'.out, ← V1'.out] at m3
          have m4 := Lib.hid m3
          clear m3
          by_cases hn : 4294967296 ≤ r'
          · have hnz : (4294967296 : Int) ≤ (r' : Int) := by omega
            go_wp2_with fail
            go_meet
            exact ⟨by rw [m4.out hq hn], ⟨_, rfl⟩, rfl⟩
          · have hnz : ¬ (4294967296 : Int) ≤ (r' : Int) := by omega
            go_wp2_with fail
            go_round
            case rel => exact ⟨q', r', rfl, rfl, by have := V2'.out; omega, by omega, m1, m2⟩
            case measure => have h1 := V2'.out; simp [intOf]; omega
        · have hgz : ¬ (4294967296 : Int) ≤ (q : Int) := by omega
          have u1 := U1.out (by omega)
          have u3 := U3.out
          have v3 := V3.out
          by_cases hb : B < P
          · have hbz : (B : Int) < (P : Int) := by omega
            have hq1 : 1 ≤ q := by have h1 := U2.out; rcases Nat.eq_zero_or_pos q with h0 | h0; (subst h0; rw [Nat.zero_mul] at h1; omega); exact h0
            obtain ⟨m1, m2, m3⟩ := Dg.next D2 HI HQ (.inr (by rw [← U2.out, ← U4.out]; exact hb))
            have v1 := V1.out
            have v2 := V2.out hq1
            rw [← V2'.out, ← V1'.out] at m1
            rw [← V2'.out] at m2
            rw [← V2'.out, ← V1'.out] at m3
            have m4 := Lib.hid m3
            clear m3
            by_cases hn : 4294967296 ≤ r'
            · have hnz : (4294967296 : Int) ≤ (r' : Int) := by omega
              go_wp2_with fail
              go_meet
              exact ⟨by rw [m4.out hq hn], ⟨_, rfl⟩, rfl⟩
            · have hnz : ¬ (4294967296 : Int) ≤ (r' : Int) := by omega
              go_wp2_with fail
              go_round
              case rel => exact ⟨q', r', rfl, rfl, by have := V2'.out; omega, by omega, m1, m2⟩
              case measure => have h1 := V2'.out; simp [intOf]; omega
          · have hbz : ¬ (B : Int) < (P : Int) := by omega
            go_wp2_with fail
            go_meet
            exact ⟨by rw [Dg.stop D2 HI HQ (by rw [← U2.out, ← U4.out]; omega)], ⟨_, rfl⟩, rfl⟩
    case rest =>
      obtain ⟨rfl, ⟨z2, rfl⟩, rfl⟩ := hcut
      obtain ⟨x1, x2, x3, x4, x5, x6, x7⟩ := W2.out
      obtain ⟨f1, f2⟩ := DF.out
      have Z1 : Hid ((Q1 : Int) * 4294967296 + (Q2 : Int) = (((hi * 18446744073709551616 + lo) / y : Nat) : Int)) := Lib.hid (by rw [← f1]; omega)
      have Z2 : Hid ((R2 : Int) / 2 ^ s = (((hi * 18446744073709551616 + lo) % y : Nat) : Int)) := Lib.hid (by rw [← f2]; exact cdivp R2 s)
      clear f1 f2
      go_wp2_with fail
      go_ret2
      refine ⟨?_, rfl⟩
      show Ending.returned (.tuple #[.int .u64 ((Q1 : Int) * 4294967296 + (Q2 : Int)), .int .u64 ((R2 : Int) / 2 ^ s)]) = _
      rw [Z1.out, Z2.out]

theorem shift_bd (y : Nat) (h : 0 < y) (h2 : y < 18446744073709551616) : ∃ s : Nat, (s : Int) = 64 - (Lib.bitLen y : Int) ∧ s ≤ 63 ∧ 9223372036854775808 ≤ y * 2 ^ s ∧ y * 2 ^ s < 18446744073709551616 := by
  obtain ⟨b1, b2, b3, b4⟩ := len_bd y h h2
  refine ⟨64 - Lib.bitLen y, by omega, by omega, ?_, ?_⟩
  · have := Nat.mul_le_mul_right (2 ^ (64 - Lib.bitLen y)) b3
    rw [← Nat.pow_add, show Lib.bitLen y - 1 + (64 - Lib.bitLen y) = 63 from by omega] at this
    exact this
  · have := Nat.mul_lt_mul_of_pos_right b4 (Nat.two_pow_pos (64 - Lib.bitLen y))
    rw [← Nat.pow_add, show Lib.bitLen y + (64 - Lib.bitLen y) = 64 from by omega] at this
    exact this
theorem div64_any (hi lo y : Nat) (w : World) (hl : lo < 18446744073709551616) (hy : hi < y) (hy2 : y < 18446744073709551616) :
    Calls Try.prog 104 #[.int .u64 hi, .int .u64 lo, .int .u64 y] w fun e w' => e = .returned (.tuple #[.int .u64 (((hi * 18446744073709551616 + lo) / y : Nat) : Int), .int .u64 (((hi * 18446744073709551616 + lo) % y : Nat) : Int)]) ∧ Below w.heap.size w w' := by
  rcases Nat.eq_zero_or_pos hi with h0 | h0
  · subst h0
    rw [Nat.zero_mul, Nat.zero_add]
    exact div64_zero lo y w hl hy hy2
  · obtain ⟨s, s1, s2, s3, s4⟩ := shift_bd y (by omega) hy2
    refine (div64_try hi lo y s w hl h0 hy hy2 s2 s3 s4 (Lib.hid ?_)).mono ?_
    · intro w
      refine (Try.bits_LeadingZeros64 (y : Int) w (by omega) (by omega)).mono ?_
      rintro e w' ⟨rfl, rfl⟩
      exact ⟨by rw [s1]; rfl, rfl⟩
    · rintro e w' ⟨rfl, rfl⟩
      exact ⟨rfl, Below.refl _ _⟩
end Go.Proofs.Ytdafgpikgpobbaa.Div64
