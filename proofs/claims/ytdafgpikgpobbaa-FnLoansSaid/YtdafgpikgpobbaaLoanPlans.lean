/-
  The plan of a loan: plain facts on its balances, and the contracts of LoanPlan of both packages.
  Conditions: the amount lies in 1 .. 100000000, the rate in 0 .. 200, the years in 1 .. 60.
-/
import Derived.Test.YtdafgpikgpobbaaDiscs
import Derived.Test.YtdafgpikgpobbaaInterest
namespace Go.Proofs.Ytdafgpikgpobbaa.LoanPlans
open Go.RowKit Mem
set_option linter.unusedVariables false

/-! Plain facts -/
theorem upq_mono (a b c : Int) (hc : 1 ≤ c) (h : a ≤ b) : Plain.upq a c ≤ Plain.upq b c :=
  Plain.upq_le_of a c _ hc (Int.le_trans h (Plain.upq_ge b c hc))
theorem disc_fall (r : Int) (h : 0 ≤ r) (k : Nat) : Plain.disc r (k + 1) * r + 1000 * Plain.disc r (k + 1) ≤ 1000 * Plain.disc r k := by
  have := Int.ediv_mul_le (Plain.disc r k * 1000) (show (1000 + r) ≠ 0 by omega)
  rw [← Plain.disc_succ, Int.mul_add] at this
  omega
theorem dsum_rate (r : Int) (h : 0 ≤ r) (n : Nat) : Plain.dsum r 1 n * r + 1000 * Plain.disc r n ≤ 1000000000000 := by
  induction n with
  | zero => simp [Plain.dsum, Plain.disc]
  | succ n ih =>
    show (Plain.dsum r 1 n + Plain.disc r (1 + n)) * r + 1000 * Plain.disc r (n + 1) ≤ _
    rw [Nat.add_comm 1 n, Int.add_mul]
    have := disc_fall r h n
    omega
/-- The level payment is enough for the interest. -/
theorem pay_enough (a r : Int) (n : Nat) (ha : 1 ≤ a) (h1 : 0 ≤ r) (h2 : r ≤ 200) (hn : 1 ≤ n) : Plain.upq (a * r) 1000 ≤ Plain.upq (a * 1000000000) (Plain.dsum r 1 n) := by
  have hp := Plain.dsum_pos r h1 h2 n hn
  have hg := Plain.upq_ge (a * 1000000000) (Plain.dsum r 1 n) hp
  have hr := dsum_rate r h1 n
  have hd := (Plain.disc_bd r h1 n).1
  generalize Plain.upq (a * 1000000000) (Plain.dsum r 1 n) = p at *
  generalize Plain.dsum r 1 n = S at *
  refine Plain.upq_le_of _ _ _ (by omega) ?_
  refine Int.le_of_mul_le_mul_left (a := S) ?_ (by omega)
  have e1 : S * (a * r) = a * (S * r) := by rw [← Int.mul_assoc, Int.mul_comm S a, Int.mul_assoc]
  have e2 : S * (p * 1000) = p * S * 1000 := by rw [← Int.mul_assoc, Int.mul_comm S p]
  rw [e1, e2]
  have e3 : a * (S * r) ≤ a * 1000000000000 := Int.mul_le_mul_of_nonneg_left (by omega) (by omega)
  omega

/-- The balance with interest. -/
def nb (r b : Int) : Int := b + Plain.upq (b * r) 1000
def bal (p r a : Int) : Nat → Int
  | 0 => a
  | k + 1 => nb r (bal p r a k) - min p (nb r (bal p r a k))
def pays (p r a : Int) : Nat → List Int
  | 0 => []
  | k + 1 => pays p r a k ++ [min p (nb r (bal p r a k))]
theorem pays_length (p r a : Int) (k : Nat) : (pays p r a k).length = k := by
  induction k with
  | zero => rfl
  | succ k ih => show (pays p r a k ++ [_]).length = _; rw [List.length_append, ih]; rfl
theorem bal_bd (p r a : Int) (ha : 0 ≤ a) (h1 : 0 ≤ r) (hp : 0 ≤ p) (hi : Plain.upq (a * r) 1000 ≤ p) (k : Nat) : 0 ≤ bal p r a k ∧ bal p r a k ≤ a := by
  induction k with
  | zero => exact ⟨ha, Int.le_refl a⟩
  | succ k ih =>
    have hm : bal p r a k * r ≤ a * r := Int.mul_le_mul_of_nonneg_right ih.2 h1
    have h0 : 0 ≤ bal p r a k * r := Int.mul_nonneg ih.1 h1
    have hu := upq_mono _ _ 1000 (by omega) hm
    have hz := (Plain.upq_bd (bal p r a k * r) 1000 h0 (by omega)).1
    show 0 ≤ nb r (bal p r a k) - min p (nb r (bal p r a k)) ∧ nb r (bal p r a k) - min p (nb r (bal p r a k)) ≤ a
    unfold nb
    omega

/-- What a plan comes to: the payments until the balance is 0, if that takes at most 120 years. -/
def done (p r a : Int) (k : Nat) : Bool := decide (bal p r a k ≤ 0)
def planOf (p r a : Int) : Option Nat → List Int
  | some k => pays p r a k
  | none => []
def planCode : Option Nat → Int
  | some _ => 0
  | none => 3
def pay (a r : Int) (n : Nat) : Int := Plain.upq (a * 1000000000) (Plain.dsum r 1 n)
def plan (a r : Int) (n : Nat) : List Int := planOf (pay a r n) r a (Plain.firstYes (done (pay a r n) r a) 121 0)
def code (a r : Int) (n : Nat) : Int := planCode (Plain.firstYes (done (pay a r n) r a) 121 0)

/-! Contracts -/
theorem info64 : (Try.prog.info? 2).map (fun i => (i.zero, i.size, i.bytes)) = some (some (.int .i64 0), 1, 8) := by kernel_rfl

set_option maxHeartbeats 2000000 in
set_option maxRecDepth 1000000 in
theorem implLoanPlan_in (a r y : Int) (w : World) (ha : 1 ≤ a) (ha2 : a ≤ 100000000) (h1 : 0 ≤ r) (h2 : r ≤ 200) (h3 : 1 ≤ y) (h4 : y ≤ 60) :
    Calls Try.prog 46 #[.int .i64 a, .int .i64 r, .int .i64 y] w fun e w' => ∃ v, e = .returned (.tuple #[v, .int .i64 (code a r y.toNat)]) ∧ Sl w' w.heap.size v (plan a r y.toNat) ∧ Below w.heap.size w w' := by
  obtain ⟨i0, hi, hz0, hz1, hz2⟩ := info_parts info64
  have HP : Hid (Plain.upq (a * 1000000000) (Plain.dsum r 1 y.toNat) = pay a r y.toNat) := rfl
  have he := pay_enough a r y.toNat ha h1 h2 (by omega)
  rw [HP.out] at he
  have hpp : 1 ≤ pay a r y.toNat := by
    unfold pay
    have g := Plain.upq_ge (a * 1000000000) _ (Plain.dsum_pos r h1 h2 y.toNat (by omega))
    have p := Plain.dsum_pos r h1 h2 y.toNat (by omega)
    rcases Int.lt_or_le 0 (Plain.upq (a * 1000000000) (Plain.dsum r 1 y.toNat)) with h | h
    · omega
    · have := Int.mul_nonneg (show 0 ≤ -Plain.upq (a * 1000000000) (Plain.dsum r 1 y.toNat) by omega) (show 0 ≤ Plain.dsum r 1 y.toNat by omega)
      rw [Int.neg_mul] at this; omega
  have hpm : pay a r y.toNat ≤ 100000000000000000 := by
    have := (Plain.upq_bd (a * 1000000000) _ (by omega) (Plain.dsum_pos r h1 h2 y.toNat (by omega))).2
    unfold pay; omega
  have BB := Lib.hid (fun k => bal_bd (pay a r y.toNat) r a (by omega) h1 (by omega) he k)
  have HPL : Hid (plan a r y.toNat = planOf (pay a r y.toNat) r a (Plain.firstYes (done (pay a r y.toNat) r a) 121 0)) := rfl
  have HCD : Hid (code a r y.toNat = planCode (Plain.firstYes (done (pay a r y.toNat) r a) 121 0)) := rfl
  clear he
  generalize pay a r y.toNat = p at *
  go_enter Try.func46, Try.ntmps46
  go_wp2_with (first
      | (go_at_call 93; refine (Discs.loanPayment_any _ _ _ _ (by omega) (by omega) (by omega) (by omega) (by omega) (by omega)).mono ?_; rintro e w1 ⟨rfl, hb1⟩; rw [HP.out])
      | (go_at_call 65; refine (Base.l01In_yes _ _ _ _ (by omega) (by omega)).mono ?_; rintro e w' ⟨rfl, rfl⟩)
      | (go_at_call 65; refine (Base.l01In_no _ _ _ _ (by omega)).mono ?_; rintro e w' ⟨rfl, rfl⟩)
      | (go_at_call 63; refine (Base.inRange_yes _ _ _ _ (by omega) (by omega)).mono ?_; rintro e w' ⟨rfl, rfl⟩)
      | (go_at_call 63; refine (Base.inRange_no _ _ _ _ (by omega)).mono ?_; rintro e w' ⟨rfl, rfl⟩)
      | (go_at_call 70; refine (Base.spec_l01Money_yes _ _ (by omega) (by omega)).mono ?_; rintro e w' ⟨rfl, rfl⟩)
      | (go_at_call 70; refine (Base.spec_l01Money_no _ _ (by omega)).mono ?_; rintro e w' ⟨rfl, rfl⟩)
      | (go_at_call 68; refine (Base.impl_isMoney_yes _ _ (by omega) (by omega)).mono ?_; rintro e w' ⟨rfl, rfl⟩)
      | (go_at_call 68; refine (Base.impl_isMoney_no _ _ (by omega)).mono ?_; rintro e w' ⟨rfl, rfl⟩)
      | (go_at_call 79; refine (Base.spec_l02Month_yes _ _ (by omega) (by omega)).mono ?_; rintro e w' ⟨rfl, rfl⟩)
      | (go_at_call 79; refine (Base.spec_l02Month_no _ _ (by omega)).mono ?_; rintro e w' ⟨rfl, rfl⟩)
      | (go_at_call 78; refine (Base.impl_isMonth_yes _ _ (by omega) (by omega)).mono ?_; rintro e w' ⟨rfl, rfl⟩)
      | (go_at_call 78; refine (Base.impl_isMonth_no _ _ (by omega)).mono ?_; rintro e w' ⟨rfl, rfl⟩)
      | (go_at_call 90; refine (Base.spec_l04Rate_yes _ _ (by omega) (by omega)).mono ?_; rintro e w' ⟨rfl, rfl⟩)
      | (go_at_call 90; refine (Base.spec_l04Rate_no _ _ (by omega)).mono ?_; rintro e w' ⟨rfl, rfl⟩)
      | (go_at_call 89; refine (Base.impl_isRate_yes _ _ (by omega) (by omega)).mono ?_; rintro e w' ⟨rfl, rfl⟩)
      | (go_at_call 89; refine (Base.impl_isRate_no _ _ (by omega)).mono ?_; rintro e w' ⟨rfl, rfl⟩)
      | (go_at_call 84; refine (Base.impl_isYears_yes _ _ (by omega) (by omega)).mono ?_; rintro e w' ⟨rfl, rfl⟩)
      | (go_at_call 84; refine (Base.impl_isYears_no _ _ (by omega)).mono ?_; rintro e w' ⟨rfl, rfl⟩)
      | (go_at_call 86; refine (Base.spec_l04Amount_yes _ _ (by omega) (by omega)).mono ?_; rintro e w' ⟨rfl, rfl⟩)
      | (go_at_call 86; refine (Base.spec_l04Amount_no _ _ (by omega)).mono ?_; rintro e w' ⟨rfl, rfl⟩)
      | (go_at_call 83; refine (Base.impl_isAmount_yes _ _ (by omega) (by omega)).mono ?_; rintro e w' ⟨rfl, rfl⟩)
      | (go_at_call 83; refine (Base.impl_isAmount_no _ _ (by omega)).mono ?_; rintro e w' ⟨rfl, rfl⟩)
      | (go_at_call 94; refine (Base.spec_l04Loan_yes _ _ _ _ (by omega) (by omega) (by omega) (by omega) (by omega) (by omega)).mono ?_; rintro e w' ⟨rfl, rfl⟩)
      | (go_at_call 94; refine (Base.spec_l04Loan_no _ _ _ _ (by omega)).mono ?_; rintro e w' ⟨rfl, rfl⟩)
      | (go_at_call 92; refine (Base.impl_isLoan_yes _ _ _ _ (by omega) (by omega) (by omega) (by omega) (by omega) (by omega)).mono ?_; rintro e w' ⟨rfl, rfl⟩)
      | (go_at_call 92; refine (Base.impl_isLoan_no _ _ _ _ (by omega)).mono ?_; rintro e w' ⟨rfl, rfl⟩)
     )
  go_loopw [0, 9] (fun am o wr => ∃ (k : Nat) (b : Int) (ao : Option Addr) (c : Nat), k ≤ 120 ∧ am = .int .i64 b ∧ o = .slice ao k c ∧ 0 ≤ b ∧ b ≤ 100000000 ∧ Hid (b = bal p r a k) ∧ wr.ownsRow w1.heap.size 2 1 (.slice ao k c) k ((pays p r a k).map (Value.int .i64)) ∧ Hid (Plain.firstYes (done p r a) (121 - k) k = Plain.firstYes (done p r a) 121 0) ∧ Below w1.heap.size w1 wr ∧ w1.heap.size ≤ wr.heap.size) (fun _ o _ => 120 - lenOf o)
  case atStart => exact ⟨0, a, _, _, by omega, rfl, rfl, by omega, by omega, rfl, World.ownsRow_made w1 #[] 0 (by omega) (by unfold maxLen; omega) rfl, rfl, (Below.refl _ _).alloc (by omega) _, by simp⟩
  case round =>
    obtain ⟨k, b, ao, c, hk, rfl, rfl, hb0, hbm, H, hown, HF, hnx, hsz⟩ := hrel
    obtain ⟨f, hf⟩ : ∃ f, 121 - k = f + 1 := ⟨120 - k, by omega⟩
    have HFF := Lib.hid hf
    clear hf
    by_cases hz : b ≤ 0
    · have HY : Hid (Plain.firstYes (done p r a) 121 0 = some k) := by
        show _ = _; rw [← HF.out, HFF.out, Plain.firstYes_hit _ _ _ (by unfold done; rw [← H.out]; simp [hz])]
      have hs := Lib.hid (sl_of_own hown (by rw [pays_length]; omega))
      clear hown
      go_wp2
      go_ret2
      refine ⟨_, by rw [HCD.out, HY.out]; rfl, ?_, blB hb1.size hb1 hnx⟩
      rw [HPL.out, HY.out]
      exact sl_mono hb1.size hs.out
    · have hz' : 0 < b := by omega
      clear hz
      have HN : Hid (k < 120 → Plain.firstYes (done p r a) (121 - (k + 1)) (k + 1) = Plain.firstYes (done p r a) 121 0) := by
        intro _
        rw [← HF.out, HFF.out, Plain.firstYes_miss _ _ _ (by unfold done; rw [← H.out]; simp; omega), show 121 - (k + 1) = f from by have := HFF.out; omega]
      have HN2 : Hid (k = 120 → Plain.firstYes (done p r a) 121 0 = none) := by
        intro e
        have : f = 0 := by have := HFF.out; omega
        rw [← HF.out, HFF.out, Plain.firstYes_miss _ _ _ (by unfold done; rw [← H.out]; simp; omega), this]; rfl
      by_cases hl : k = 120
      · have HO := Lib.hid (HN2.out hl)
        subst hl
        go_wp2
        go_ret2
        refine ⟨_, by rw [HCD.out, HO.out]; rfl, ?_, blB hb1.size hb1 hnx⟩
        rw [HPL.out, HO.out]
        exact .inl ⟨rfl, rfl⟩
      · have hlt : k < 120 := by omega
        clear hl
        have HO := Lib.hid (HN.out hlt)
        obtain ⟨q1, q2⟩ := Plain.mul_bd b r 100000000 200 hb0 hbm h1 h2
        obtain ⟨u1, u2⟩ := Plain.upq_bd (b * r) 1000 q1 (by omega)
        obtain ⟨e1, e2⟩ := BB.out (k + 1)
        have E : Hid (bal p r a (k + 1) = nb r b - min p (nb r b)) := by show nb r (bal p r a k) - min p (nb r (bal p r a k)) = _; rw [← H.out]
        have EP : Hid (pays p r a (k + 1) = pays p r a k ++ [min p (nb r b)]) := by show pays p r a k ++ [min p (nb r (bal p r a k))] = _; rw [← H.out]
        rw [E.out] at e1 e2
        have NB : Hid (nb r b = b + Plain.upq (b * r) 1000) := rfl
        rw [NB.out] at e1 e2
        by_cases hm : p ≤ b + Plain.upq (b * r) 1000
        · have M : Hid (min p (nb r b) = p) := by show _ = _; rw [NB.out]; omega
          have e3 : b + Plain.upq (b * r) 1000 - p ≤ 100000000 := by omega
          go_wp2_with (first | (go_at_call 72; refine (Round.up_any _ _ _ (by omega) (by omega) (by omega) (by omega)).mono ?_; rintro e w9 ⟨rfl, rfl⟩) | (at_builtin; refine wpList_append_own _ rfl _ _ 34 rfl w1.heap.size 2 i0 (.int .i64 0) 1 8 Try.underlying34 hi hz0 hz1 hz2 rfl (by decide) _ _ _ rfl (hown.alloc _) ⟨wr.heap.size, 0, none⟩ 1 1 [.int .i64 (p)] rfl rfl (by intro j u hj; match j, hj with | 0, hj => simp at hj; subst hj; simp [Addr.add]) (by intro u hu; simp at hu; subst hu; rfl) (by unfold maxLen; omega) (by omega) (by simp; omega) ?_; intro v' w2 hown' hgrow hnil'))
          obtain ⟨a1, a2⟩ := app_step hnx hsz hown hgrow
          obtain ⟨ao', c', rfl⟩ := own_shape hown'
          go_wp2
          go_roundw
          case rel => exact ⟨k + 1, b + Plain.upq (b * r) 1000 - p, ao', c', by omega, rfl, rfl, by omega, by omega, by show _ = _; rw [E.out, M.out, NB.out], by rw [EP.out, List.map_append, M.out]; exact hown', HO.out, a1, a2⟩
          case measure => simp [lenOf]; omega
        · have M : Hid (min p (nb r b) = b + Plain.upq (b * r) 1000) := by show _ = _; rw [NB.out]; omega
          have hm' : b + Plain.upq (b * r) 1000 < p := by omega
          clear hm
          go_wp2_with (first | (go_at_call 72; refine (Round.up_any _ _ _ (by omega) (by omega) (by omega) (by omega)).mono ?_; rintro e w9 ⟨rfl, rfl⟩) | (at_builtin; refine wpList_append_own _ rfl _ _ 34 rfl w1.heap.size 2 i0 (.int .i64 0) 1 8 Try.underlying34 hi hz0 hz1 hz2 rfl (by decide) _ _ _ rfl (hown.alloc _) ⟨wr.heap.size, 0, none⟩ 1 1 [.int .i64 (b + Plain.upq (b * r) 1000)] rfl rfl (by intro j u hj; match j, hj with | 0, hj => simp at hj; subst hj; simp [Addr.add]) (by intro u hu; simp at hu; subst hu; rfl) (by unfold maxLen; omega) (by omega) (by simp; omega) ?_; intro v' w2 hown' hgrow hnil'))
          obtain ⟨a1, a2⟩ := app_step hnx hsz hown hgrow
          obtain ⟨ao', c', rfl⟩ := own_shape hown'
          go_wp2
          go_roundw
          case rel => exact ⟨k + 1, 0, ao', c', by omega, by first | rfl | (congr 1; omega), rfl, by omega, by omega, by show _ = _; rw [E.out, M.out, NB.out]; omega, by rw [EP.out, List.map_append, M.out]; exact hown', HO.out, a1, a2⟩
          case measure => simp [lenOf]; omega

theorem l04Payment_any (a r y : Int) (w : World) (ha : 1 ≤ a) (ha2 : a ≤ 100000000) (h1 : 0 ≤ r) (h2 : r ≤ 200) (h3 : 1 ≤ y) (h4 : y ≤ 60) :
    Calls Try.prog 95 #[.int .i64 a, .int .i64 r, .int .i64 y] w fun e w' => e = .returned (.int .i64 (Plain.upq (a * 1000000000) (Plain.dsum r 1 y.toNat))) ∧ Below w.heap.size w w' := by
  have p1 := Plain.dsum_pos r h1 h2 y.toNat (by omega)
  have p2 := (Plain.dsum_bd r h1 1 y.toNat).2
  have one : Hid ((1 : Int).toNat = 1) := rfl
  go_enter Try.func95, Try.ntmps95
  go_wp2_with (first | (go_at_call 99; refine (Interest.l04Annuity_any _ _ _ _ (by omega) (by omega) (by omega) (by omega) (by omega) (by omega)).mono ?_; rintro e w' ⟨rfl, rfl⟩; rw [one.out]) | (go_at_call 73; refine (Round.l01Up_any _ _ _ (by omega) (by omega) (by omega) (by omega)).mono ?_; rintro e w' ⟨rfl, rfl⟩))
  go_ret
  exact ⟨rfl, Below.refl _ _⟩

set_option maxHeartbeats 2000000 in
set_option maxRecDepth 1000000 in
theorem specLoanPlan_in (a r y : Int) (w : World) (ha : 1 ≤ a) (ha2 : a ≤ 100000000) (h1 : 0 ≤ r) (h2 : r ≤ 200) (h3 : 1 ≤ y) (h4 : y ≤ 60) :
    Calls Try.prog 47 #[.int .i64 a, .int .i64 r, .int .i64 y] w fun e w' => ∃ v, e = .returned (.tuple #[v, .int .i64 (code a r y.toNat)]) ∧ Sl w' w.heap.size v (plan a r y.toNat) ∧ Below w.heap.size w w' := by
  obtain ⟨i0, hi, hz0, hz1, hz2⟩ := info_parts info64
  have HP : Hid (Plain.upq (a * 1000000000) (Plain.dsum r 1 y.toNat) = pay a r y.toNat) := rfl
  have he := pay_enough a r y.toNat ha h1 h2 (by omega)
  rw [HP.out] at he
  have hpp : 1 ≤ pay a r y.toNat := by
    unfold pay
    have g := Plain.upq_ge (a * 1000000000) _ (Plain.dsum_pos r h1 h2 y.toNat (by omega))
    have p := Plain.dsum_pos r h1 h2 y.toNat (by omega)
    rcases Int.lt_or_le 0 (Plain.upq (a * 1000000000) (Plain.dsum r 1 y.toNat)) with h | h
    · omega
    · have := Int.mul_nonneg (show 0 ≤ -Plain.upq (a * 1000000000) (Plain.dsum r 1 y.toNat) by omega) (show 0 ≤ Plain.dsum r 1 y.toNat by omega)
      rw [Int.neg_mul] at this; omega
  have hpm : pay a r y.toNat ≤ 100000000000000000 := by
    have := (Plain.upq_bd (a * 1000000000) _ (by omega) (Plain.dsum_pos r h1 h2 y.toNat (by omega))).2
    unfold pay; omega
  have BB := Lib.hid (fun k => bal_bd (pay a r y.toNat) r a (by omega) h1 (by omega) he k)
  have HPL : Hid (plan a r y.toNat = planOf (pay a r y.toNat) r a (Plain.firstYes (done (pay a r y.toNat) r a) 121 0)) := rfl
  have HCD : Hid (code a r y.toNat = planCode (Plain.firstYes (done (pay a r y.toNat) r a) 121 0)) := rfl
  clear he
  generalize pay a r y.toNat = p at *
  go_enter Try.func47, Try.ntmps47
  go_wp2_with (first
      | (go_at_call 95; refine (l04Payment_any _ _ _ _ (by omega) (by omega) (by omega) (by omega) (by omega) (by omega)).mono ?_; rintro e w1 ⟨rfl, hb1⟩; rw [HP.out])
      | (go_at_call 65; refine (Base.l01In_yes _ _ _ _ (by omega) (by omega)).mono ?_; rintro e w' ⟨rfl, rfl⟩)
      | (go_at_call 65; refine (Base.l01In_no _ _ _ _ (by omega)).mono ?_; rintro e w' ⟨rfl, rfl⟩)
      | (go_at_call 63; refine (Base.inRange_yes _ _ _ _ (by omega) (by omega)).mono ?_; rintro e w' ⟨rfl, rfl⟩)
      | (go_at_call 63; refine (Base.inRange_no _ _ _ _ (by omega)).mono ?_; rintro e w' ⟨rfl, rfl⟩)
      | (go_at_call 70; refine (Base.spec_l01Money_yes _ _ (by omega) (by omega)).mono ?_; rintro e w' ⟨rfl, rfl⟩)
      | (go_at_call 70; refine (Base.spec_l01Money_no _ _ (by omega)).mono ?_; rintro e w' ⟨rfl, rfl⟩)
      | (go_at_call 68; refine (Base.impl_isMoney_yes _ _ (by omega) (by omega)).mono ?_; rintro e w' ⟨rfl, rfl⟩)
      | (go_at_call 68; refine (Base.impl_isMoney_no _ _ (by omega)).mono ?_; rintro e w' ⟨rfl, rfl⟩)
      | (go_at_call 79; refine (Base.spec_l02Month_yes _ _ (by omega) (by omega)).mono ?_; rintro e w' ⟨rfl, rfl⟩)
      | (go_at_call 79; refine (Base.spec_l02Month_no _ _ (by omega)).mono ?_; rintro e w' ⟨rfl, rfl⟩)
      | (go_at_call 78; refine (Base.impl_isMonth_yes _ _ (by omega) (by omega)).mono ?_; rintro e w' ⟨rfl, rfl⟩)
      | (go_at_call 78; refine (Base.impl_isMonth_no _ _ (by omega)).mono ?_; rintro e w' ⟨rfl, rfl⟩)
      | (go_at_call 90; refine (Base.spec_l04Rate_yes _ _ (by omega) (by omega)).mono ?_; rintro e w' ⟨rfl, rfl⟩)
      | (go_at_call 90; refine (Base.spec_l04Rate_no _ _ (by omega)).mono ?_; rintro e w' ⟨rfl, rfl⟩)
      | (go_at_call 89; refine (Base.impl_isRate_yes _ _ (by omega) (by omega)).mono ?_; rintro e w' ⟨rfl, rfl⟩)
      | (go_at_call 89; refine (Base.impl_isRate_no _ _ (by omega)).mono ?_; rintro e w' ⟨rfl, rfl⟩)
      | (go_at_call 84; refine (Base.impl_isYears_yes _ _ (by omega) (by omega)).mono ?_; rintro e w' ⟨rfl, rfl⟩)
      | (go_at_call 84; refine (Base.impl_isYears_no _ _ (by omega)).mono ?_; rintro e w' ⟨rfl, rfl⟩)
      | (go_at_call 86; refine (Base.spec_l04Amount_yes _ _ (by omega) (by omega)).mono ?_; rintro e w' ⟨rfl, rfl⟩)
      | (go_at_call 86; refine (Base.spec_l04Amount_no _ _ (by omega)).mono ?_; rintro e w' ⟨rfl, rfl⟩)
      | (go_at_call 83; refine (Base.impl_isAmount_yes _ _ (by omega) (by omega)).mono ?_; rintro e w' ⟨rfl, rfl⟩)
      | (go_at_call 83; refine (Base.impl_isAmount_no _ _ (by omega)).mono ?_; rintro e w' ⟨rfl, rfl⟩)
      | (go_at_call 94; refine (Base.spec_l04Loan_yes _ _ _ _ (by omega) (by omega) (by omega) (by omega) (by omega) (by omega)).mono ?_; rintro e w' ⟨rfl, rfl⟩)
      | (go_at_call 94; refine (Base.spec_l04Loan_no _ _ _ _ (by omega)).mono ?_; rintro e w' ⟨rfl, rfl⟩)
      | (go_at_call 92; refine (Base.impl_isLoan_yes _ _ _ _ (by omega) (by omega) (by omega) (by omega) (by omega) (by omega)).mono ?_; rintro e w' ⟨rfl, rfl⟩)
      | (go_at_call 92; refine (Base.impl_isLoan_no _ _ _ _ (by omega)).mono ?_; rintro e w' ⟨rfl, rfl⟩)
     )
  go_loopw [0, 9] (fun am o wr => ∃ (k : Nat) (b : Int) (ao : Option Addr) (c : Nat), k ≤ 120 ∧ am = .int .i64 b ∧ o = .slice ao k c ∧ 0 ≤ b ∧ b ≤ 100000000 ∧ Hid (b = bal p r a k) ∧ wr.ownsRow w1.heap.size 2 1 (.slice ao k c) k ((pays p r a k).map (Value.int .i64)) ∧ Hid (Plain.firstYes (done p r a) (121 - k) k = Plain.firstYes (done p r a) 121 0) ∧ Below w1.heap.size w1 wr ∧ w1.heap.size ≤ wr.heap.size) (fun _ o _ => 120 - lenOf o)
  case atStart => exact ⟨0, a, _, _, by omega, rfl, rfl, by omega, by omega, rfl, World.ownsRow_made w1 #[] 0 (by omega) (by unfold maxLen; omega) rfl, rfl, (Below.refl _ _).alloc (by omega) _, by simp⟩
  case round =>
    obtain ⟨k, b, ao, c, hk, rfl, rfl, hb0, hbm, H, hown, HF, hnx, hsz⟩ := hrel
    obtain ⟨f, hf⟩ : ∃ f, 121 - k = f + 1 := ⟨120 - k, by omega⟩
    have HFF := Lib.hid hf
    clear hf
    by_cases hz : b ≤ 0
    · have HY : Hid (Plain.firstYes (done p r a) 121 0 = some k) := by
        show _ = _; rw [← HF.out, HFF.out, Plain.firstYes_hit _ _ _ (by unfold done; rw [← H.out]; simp [hz])]
      have hs := Lib.hid (sl_of_own hown (by rw [pays_length]; omega))
      clear hown
      go_wp2
      go_ret2
      refine ⟨_, by rw [HCD.out, HY.out]; rfl, ?_, blB hb1.size hb1 hnx⟩
      rw [HPL.out, HY.out]
      exact sl_mono hb1.size hs.out
    · have hz' : 0 < b := by omega
      clear hz
      have HN : Hid (k < 120 → Plain.firstYes (done p r a) (121 - (k + 1)) (k + 1) = Plain.firstYes (done p r a) 121 0) := by
        intro _
        rw [← HF.out, HFF.out, Plain.firstYes_miss _ _ _ (by unfold done; rw [← H.out]; simp; omega), show 121 - (k + 1) = f from by have := HFF.out; omega]
      have HN2 : Hid (k = 120 → Plain.firstYes (done p r a) 121 0 = none) := by
        intro e
        have : f = 0 := by have := HFF.out; omega
        rw [← HF.out, HFF.out, Plain.firstYes_miss _ _ _ (by unfold done; rw [← H.out]; simp; omega), this]; rfl
      by_cases hl : k = 120
      · have HO := Lib.hid (HN2.out hl)
        subst hl
        go_wp2
        go_ret2
        refine ⟨_, by rw [HCD.out, HO.out]; rfl, ?_, blB hb1.size hb1 hnx⟩
        rw [HPL.out, HO.out]
        exact .inl ⟨rfl, rfl⟩
      · have hlt : k < 120 := by omega
        clear hl
        have HO := Lib.hid (HN.out hlt)
        obtain ⟨q1, q2⟩ := Plain.mul_bd b r 100000000 200 hb0 hbm h1 h2
        obtain ⟨u1, u2⟩ := Plain.upq_bd (b * r) 1000 q1 (by omega)
        obtain ⟨e1, e2⟩ := BB.out (k + 1)
        have E : Hid (bal p r a (k + 1) = nb r b - min p (nb r b)) := by show nb r (bal p r a k) - min p (nb r (bal p r a k)) = _; rw [← H.out]
        have EP : Hid (pays p r a (k + 1) = pays p r a k ++ [min p (nb r b)]) := by show pays p r a k ++ [min p (nb r (bal p r a k))] = _; rw [← H.out]
        rw [E.out] at e1 e2
        have NB : Hid (nb r b = b + Plain.upq (b * r) 1000) := rfl
        rw [NB.out] at e1 e2
        by_cases hm : p ≤ b + Plain.upq (b * r) 1000
        · have M : Hid (min p (nb r b) = p) := by show _ = _; rw [NB.out]; omega
          have e3 : b + Plain.upq (b * r) 1000 - p ≤ 100000000 := by omega
          go_wp2_with (first | (go_at_call 73; refine (Round.l01Up_any _ _ _ (by omega) (by omega) (by omega) (by omega)).mono ?_; rintro e w9 ⟨rfl, rfl⟩) | (at_builtin; refine wpList_append_own _ rfl _ _ 34 rfl w1.heap.size 2 i0 (.int .i64 0) 1 8 Try.underlying34 hi hz0 hz1 hz2 rfl (by decide) _ _ _ rfl (hown.alloc _) ⟨wr.heap.size, 0, none⟩ 1 1 [.int .i64 (p)] rfl rfl (by intro j u hj; match j, hj with | 0, hj => simp at hj; subst hj; simp [Addr.add]) (by intro u hu; simp at hu; subst hu; rfl) (by unfold maxLen; omega) (by omega) (by simp; omega) ?_; intro v' w2 hown' hgrow hnil'))
          obtain ⟨a1, a2⟩ := app_step hnx hsz hown hgrow
          obtain ⟨ao', c', rfl⟩ := own_shape hown'
          go_wp2
          go_roundw
          case rel => exact ⟨k + 1, b + Plain.upq (b * r) 1000 - p, ao', c', by omega, rfl, rfl, by omega, by omega, by show _ = _; rw [E.out, M.out, NB.out], by rw [EP.out, List.map_append, M.out]; exact hown', HO.out, a1, a2⟩
          case measure => simp [lenOf]; omega
        · have M : Hid (min p (nb r b) = b + Plain.upq (b * r) 1000) := by show _ = _; rw [NB.out]; omega
          have hm' : b + Plain.upq (b * r) 1000 < p := by omega
          clear hm
          go_wp2_with (first | (go_at_call 73; refine (Round.l01Up_any _ _ _ (by omega) (by omega) (by omega) (by omega)).mono ?_; rintro e w9 ⟨rfl, rfl⟩) | (at_builtin; refine wpList_append_own _ rfl _ _ 34 rfl w1.heap.size 2 i0 (.int .i64 0) 1 8 Try.underlying34 hi hz0 hz1 hz2 rfl (by decide) _ _ _ rfl (hown.alloc _) ⟨wr.heap.size, 0, none⟩ 1 1 [.int .i64 (b + Plain.upq (b * r) 1000)] rfl rfl (by intro j u hj; match j, hj with | 0, hj => simp at hj; subst hj; simp [Addr.add]) (by intro u hu; simp at hu; subst hu; rfl) (by unfold maxLen; omega) (by omega) (by simp; omega) ?_; intro v' w2 hown' hgrow hnil'))
          obtain ⟨a1, a2⟩ := app_step hnx hsz hown hgrow
          obtain ⟨ao', c', rfl⟩ := own_shape hown'
          go_wp2
          go_roundw
          case rel => exact ⟨k + 1, 0, ao', c', by omega, by first | rfl | (congr 1; omega), rfl, by omega, by omega, by show _ = _; rw [E.out, M.out, NB.out]; omega, by rw [EP.out, List.map_append, M.out]; exact hown', HO.out, a1, a2⟩
          case measure => simp [lenOf]; omega

/-! Any arguments -/
def isLoan (a r y : Int) : Bool := decide (1 ≤ a ∧ a ≤ 100000000 ∧ 0 ≤ r ∧ r ≤ 200 ∧ 1 ≤ y ∧ y ≤ 60)
def planA (a r y : Int) : List Int := if isLoan a r y then plan a r y.toNat else []
def codeA (a r y : Int) : Int := if isLoan a r y then code a r y.toNat else 2
theorem planA_length (a r y : Int) : (planA a r y).length ≤ 120 := by
  unfold planA
  split
  · unfold plan
    cases h : Plain.firstYes (done (pay a r y.toNat) r a) 121 0 with
    | none => simp [planOf]
    | some k =>
      have := (Plain.firstYes_some _ _ _ _ h).2.2.1
      simp only [planOf, pays_length]; omega
  · simp

theorem implLoanPlan_any (a r y : Int) (w : World) :
    Calls Try.prog 46 #[.int .i64 a, .int .i64 r, .int .i64 y] w fun e w' => ∃ v, e = .returned (.tuple #[v, .int .i64 (codeA a r y)]) ∧ Sl w' w.heap.size v (planA a r y) ∧ Below w.heap.size w w' := by
  by_cases h : 1 ≤ a ∧ a ≤ 100000000 ∧ 0 ≤ r ∧ r ≤ 200 ∧ 1 ≤ y ∧ y ≤ 60
  · have e : isLoan a r y = true := by unfold isLoan; simpa using h
    unfold planA codeA
    rw [if_pos e, if_pos e]
    exact implLoanPlan_in a r y w h.1 h.2.1 h.2.2.1 h.2.2.2.1 h.2.2.2.2.1 h.2.2.2.2.2
  · have e : ¬ isLoan a r y = true := by unfold isLoan; simpa using h
    have HE := Lib.hid e
    have hn : a < 1 ∨ 100000000 < a ∨ r < 0 ∨ 200 < r ∨ y < 1 ∨ 60 < y := by omega
    clear h e
    go_enter Try.func46, Try.ntmps46
    go_wp2_with (first
      | (go_at_call 65; refine (Base.l01In_yes _ _ _ _ (by omega) (by omega)).mono ?_; rintro e w' ⟨rfl, rfl⟩)
      | (go_at_call 65; refine (Base.l01In_no _ _ _ _ (by omega)).mono ?_; rintro e w' ⟨rfl, rfl⟩)
      | (go_at_call 63; refine (Base.inRange_yes _ _ _ _ (by omega) (by omega)).mono ?_; rintro e w' ⟨rfl, rfl⟩)
      | (go_at_call 63; refine (Base.inRange_no _ _ _ _ (by omega)).mono ?_; rintro e w' ⟨rfl, rfl⟩)
      | (go_at_call 70; refine (Base.spec_l01Money_yes _ _ (by omega) (by omega)).mono ?_; rintro e w' ⟨rfl, rfl⟩)
      | (go_at_call 70; refine (Base.spec_l01Money_no _ _ (by omega)).mono ?_; rintro e w' ⟨rfl, rfl⟩)
      | (go_at_call 68; refine (Base.impl_isMoney_yes _ _ (by omega) (by omega)).mono ?_; rintro e w' ⟨rfl, rfl⟩)
      | (go_at_call 68; refine (Base.impl_isMoney_no _ _ (by omega)).mono ?_; rintro e w' ⟨rfl, rfl⟩)
      | (go_at_call 79; refine (Base.spec_l02Month_yes _ _ (by omega) (by omega)).mono ?_; rintro e w' ⟨rfl, rfl⟩)
      | (go_at_call 79; refine (Base.spec_l02Month_no _ _ (by omega)).mono ?_; rintro e w' ⟨rfl, rfl⟩)
      | (go_at_call 78; refine (Base.impl_isMonth_yes _ _ (by omega) (by omega)).mono ?_; rintro e w' ⟨rfl, rfl⟩)
      | (go_at_call 78; refine (Base.impl_isMonth_no _ _ (by omega)).mono ?_; rintro e w' ⟨rfl, rfl⟩)
      | (go_at_call 90; refine (Base.spec_l04Rate_yes _ _ (by omega) (by omega)).mono ?_; rintro e w' ⟨rfl, rfl⟩)
      | (go_at_call 90; refine (Base.spec_l04Rate_no _ _ (by omega)).mono ?_; rintro e w' ⟨rfl, rfl⟩)
      | (go_at_call 89; refine (Base.impl_isRate_yes _ _ (by omega) (by omega)).mono ?_; rintro e w' ⟨rfl, rfl⟩)
      | (go_at_call 89; refine (Base.impl_isRate_no _ _ (by omega)).mono ?_; rintro e w' ⟨rfl, rfl⟩)
      | (go_at_call 84; refine (Base.impl_isYears_yes _ _ (by omega) (by omega)).mono ?_; rintro e w' ⟨rfl, rfl⟩)
      | (go_at_call 84; refine (Base.impl_isYears_no _ _ (by omega)).mono ?_; rintro e w' ⟨rfl, rfl⟩)
      | (go_at_call 86; refine (Base.spec_l04Amount_yes _ _ (by omega) (by omega)).mono ?_; rintro e w' ⟨rfl, rfl⟩)
      | (go_at_call 86; refine (Base.spec_l04Amount_no _ _ (by omega)).mono ?_; rintro e w' ⟨rfl, rfl⟩)
      | (go_at_call 83; refine (Base.impl_isAmount_yes _ _ (by omega) (by omega)).mono ?_; rintro e w' ⟨rfl, rfl⟩)
      | (go_at_call 83; refine (Base.impl_isAmount_no _ _ (by omega)).mono ?_; rintro e w' ⟨rfl, rfl⟩)
      | (go_at_call 94; refine (Base.spec_l04Loan_yes _ _ _ _ (by omega) (by omega) (by omega) (by omega) (by omega) (by omega)).mono ?_; rintro e w' ⟨rfl, rfl⟩)
      | (go_at_call 94; refine (Base.spec_l04Loan_no _ _ _ _ (by omega)).mono ?_; rintro e w' ⟨rfl, rfl⟩)
      | (go_at_call 92; refine (Base.impl_isLoan_yes _ _ _ _ (by omega) (by omega) (by omega) (by omega) (by omega) (by omega)).mono ?_; rintro e w' ⟨rfl, rfl⟩)
      | (go_at_call 92; refine (Base.impl_isLoan_no _ _ _ _ (by omega)).mono ?_; rintro e w' ⟨rfl, rfl⟩)
     )
    go_ret2
    refine ⟨_, by unfold codeA; rw [if_neg HE.out]; rfl, ?_, Below.refl _ _⟩
    unfold planA; rw [if_neg HE.out]
    exact .inl ⟨rfl, rfl⟩

theorem specLoanPlan_any (a r y : Int) (w : World) :
    Calls Try.prog 47 #[.int .i64 a, .int .i64 r, .int .i64 y] w fun e w' => ∃ v, e = .returned (.tuple #[v, .int .i64 (codeA a r y)]) ∧ Sl w' w.heap.size v (planA a r y) ∧ Below w.heap.size w w' := by
  by_cases h : 1 ≤ a ∧ a ≤ 100000000 ∧ 0 ≤ r ∧ r ≤ 200 ∧ 1 ≤ y ∧ y ≤ 60
  · have e : isLoan a r y = true := by unfold isLoan; simpa using h
    unfold planA codeA
    rw [if_pos e, if_pos e]
    exact specLoanPlan_in a r y w h.1 h.2.1 h.2.2.1 h.2.2.2.1 h.2.2.2.2.1 h.2.2.2.2.2
  · have e : ¬ isLoan a r y = true := by unfold isLoan; simpa using h
    have HE := Lib.hid e
    have hn : a < 1 ∨ 100000000 < a ∨ r < 0 ∨ 200 < r ∨ y < 1 ∨ 60 < y := by omega
    clear h e
    go_enter Try.func47, Try.ntmps47
    go_wp2_with (first
      | (go_at_call 65; refine (Base.l01In_yes _ _ _ _ (by omega) (by omega)).mono ?_; rintro e w' ⟨rfl, rfl⟩)
      | (go_at_call 65; refine (Base.l01In_no _ _ _ _ (by omega)).mono ?_; rintro e w' ⟨rfl, rfl⟩)
      | (go_at_call 63; refine (Base.inRange_yes _ _ _ _ (by omega) (by omega)).mono ?_; rintro e w' ⟨rfl, rfl⟩)
      | (go_at_call 63; refine (Base.inRange_no _ _ _ _ (by omega)).mono ?_; rintro e w' ⟨rfl, rfl⟩)
      | (go_at_call 70; refine (Base.spec_l01Money_yes _ _ (by omega) (by omega)).mono ?_; rintro e w' ⟨rfl, rfl⟩)
      | (go_at_call 70; refine (Base.spec_l01Money_no _ _ (by omega)).mono ?_; rintro e w' ⟨rfl, rfl⟩)
      | (go_at_call 68; refine (Base.impl_isMoney_yes _ _ (by omega) (by omega)).mono ?_; rintro e w' ⟨rfl, rfl⟩)
      | (go_at_call 68; refine (Base.impl_isMoney_no _ _ (by omega)).mono ?_; rintro e w' ⟨rfl, rfl⟩)
      | (go_at_call 79; refine (Base.spec_l02Month_yes _ _ (by omega) (by omega)).mono ?_; rintro e w' ⟨rfl, rfl⟩)
      | (go_at_call 79; refine (Base.spec_l02Month_no _ _ (by omega)).mono ?_; rintro e w' ⟨rfl, rfl⟩)
      | (go_at_call 78; refine (Base.impl_isMonth_yes _ _ (by omega) (by omega)).mono ?_; rintro e w' ⟨rfl, rfl⟩)
      | (go_at_call 78; refine (Base.impl_isMonth_no _ _ (by omega)).mono ?_; rintro e w' ⟨rfl, rfl⟩)
      | (go_at_call 90; refine (Base.spec_l04Rate_yes _ _ (by omega) (by omega)).mono ?_; rintro e w' ⟨rfl, rfl⟩)
      | (go_at_call 90; refine (Base.spec_l04Rate_no _ _ (by omega)).mono ?_; rintro e w' ⟨rfl, rfl⟩)
      | (go_at_call 89; refine (Base.impl_isRate_yes _ _ (by omega) (by omega)).mono ?_; rintro e w' ⟨rfl, rfl⟩)
      | (go_at_call 89; refine (Base.impl_isRate_no _ _ (by omega)).mono ?_; rintro e w' ⟨rfl, rfl⟩)
      | (go_at_call 84; refine (Base.impl_isYears_yes _ _ (by omega) (by omega)).mono ?_; rintro e w' ⟨rfl, rfl⟩)
      | (go_at_call 84; refine (Base.impl_isYears_no _ _ (by omega)).mono ?_; rintro e w' ⟨rfl, rfl⟩)
      | (go_at_call 86; refine (Base.spec_l04Amount_yes _ _ (by omega) (by omega)).mono ?_; rintro e w' ⟨rfl, rfl⟩)
      | (go_at_call 86; refine (Base.spec_l04Amount_no _ _ (by omega)).mono ?_; rintro e w' ⟨rfl, rfl⟩)
      | (go_at_call 83; refine (Base.impl_isAmount_yes _ _ (by omega) (by omega)).mono ?_; rintro e w' ⟨rfl, rfl⟩)
      | (go_at_call 83; refine (Base.impl_isAmount_no _ _ (by omega)).mono ?_; rintro e w' ⟨rfl, rfl⟩)
      | (go_at_call 94; refine (Base.spec_l04Loan_yes _ _ _ _ (by omega) (by omega) (by omega) (by omega) (by omega) (by omega)).mono ?_; rintro e w' ⟨rfl, rfl⟩)
      | (go_at_call 94; refine (Base.spec_l04Loan_no _ _ _ _ (by omega)).mono ?_; rintro e w' ⟨rfl, rfl⟩)
      | (go_at_call 92; refine (Base.impl_isLoan_yes _ _ _ _ (by omega) (by omega) (by omega) (by omega) (by omega) (by omega)).mono ?_; rintro e w' ⟨rfl, rfl⟩)
      | (go_at_call 92; refine (Base.impl_isLoan_no _ _ _ _ (by omega)).mono ?_; rintro e w' ⟨rfl, rfl⟩)
     )
    go_ret2
    refine ⟨_, by unfold codeA; rw [if_neg HE.out]; rfl, ?_, Below.refl _ _⟩
    unfold planA; rw [if_neg HE.out]
    exact .inl ⟨rfl, rfl⟩

end Go.Proofs.Ytdafgpikgpobbaa.LoanPlans
