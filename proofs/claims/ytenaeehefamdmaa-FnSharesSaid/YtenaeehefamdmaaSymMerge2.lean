/-
  Contract of the library's symmetric merge: the general step, and the whole by induction.
  Conditions: as the contract says.
-/
import Derived.Test.YtenaeehefamdmaaSymMerge
namespace Go.Proofs.Ytenaeehefamdmaa.Sorts
open Go.Shelf Go.RowKit Go.Lib Go.Sort SortPlain
set_option linter.unusedVariables false
variable {α : Type} [Inhabited α]

/-- Where the search begins. -/
def Ini (a m b mid s0 r0 : Nat) : Prop := (mid < m ∧ s0 + b = mid + m ∧ r0 = mid) ∨ (m ≤ mid ∧ s0 = a ∧ r0 = m)
theorem ini_bd {a m b mid s0 r0 : Nat} (h : Ini a m b mid s0 r0) (h1 : a < m) (h2 : m < b) (h3 : 2 * mid ≤ a + b) (h4 : a + b < 2 * mid + 2) : a ≤ s0 ∧ s0 ≤ r0 ∧ r0 ≤ m ∧ r0 ≤ mid ∧ mid + m ≤ b + s0 ∧ m ≤ mid + m - r0 ∧ mid ≤ mid + m - r0 := by
  rcases h with ⟨k1, k2, k3⟩ | ⟨k1, k2, k3⟩ <;> (refine ⟨?_, ?_, ?_, ?_, ?_, ?_, ?_⟩ <;> omega)
theorem found_of {lt : α → α → Bool} {a m b mid s0 r0 s fin : Nat} {d : Array α} (h : Ini a m b mid s0 r0) (h1 : a < m) (h2 : m < b) (h3 : 2 * mid ≤ a + b) (h4 : a + b < 2 * mid + 2) (k1 : s0 ≤ s) (k2 : s ≤ r0) (hf : s + fin = mid + m)
    (lo : s = s0 ∨ lt d[fin]! d[s - 1]! = false) (hi : s = r0 ∨ lt d[fin - 1]! d[s]! = true) : SortPlain.Found lt a m b mid s fin d := by
  obtain ⟨b1, b2, b3, b4, b5, b6, b7⟩ := ini_bd h h1 h2 h3 h4
  refine ⟨by omega, by omega, by omega, by omega, hf, by omega, by omega, fun g1 g2 => ?_, fun g1 g2 => ?_⟩
  · rcases hi with hi | hi
    · exfalso; rcases h with ⟨c1, c2, c3⟩ | ⟨c1, c2, c3⟩ <;> omega
    · exact hi
  · rcases lo with lo | lo
    · exfalso; rcases h with ⟨c1, c2, c3⟩ | ⟨c1, c2, c3⟩ <;> omega
    · exact lo

set_option maxHeartbeats 16000000 in
set_option maxRecDepth 1000000 in
theorem symMerge_main (enc : α → Value) (cf : α → α → Int) (ix : α → Nat) (g : Nat) (cb : Array Value) (blk off cap a m b : Nat) (d0 d : Array α) (w0 w : World)
    (eg : ∀ args w, (callFunc g args).run Try.prog w = .ok (.enter g args) w) (hcmp : CmpLays1 Try.prog g cb enc cf blk off d0.size w0) (hS : SWO (ltOf cf)) (R : Row1 enc w0 blk off d0) (hs : d0.size = d.size) (S : SW enc w0 blk off d w)
    (ham : a + 1 < m) (hmb : m + 1 < b) (hb : b ≤ d.size) (hsz : d.size < 4611686018427387904) (s1 : SortedIn (ltOf cf) a m d) (s2 : SortedIn (ltOf cf) m b d) (st : Stab (ltOf cf) ix d)
    (IH : ∀ (a' m' b' : Nat) (d' : Array α) (w' : World), b' - a' < b - a → a' < m' → m' < b' → b' ≤ d.size → d'.size = d.size → SW enc w0 blk off d' w' → SortedIn (ltOf cf) a' m' d' → SortedIn (ltOf cf) m' b' d' → Stab (ltOf cf) ix d' →
      Calls Try.prog 58 #[.slice (some ⟨blk, off, none⟩) d.size cap, .int .i64 a', .int .i64 m', .int .i64 b', .func (.func g) #[] cb] w' (Merged enc (ltOf cf) ix w0 blk off a' b' d')) :
    Calls Try.prog 58 #[.slice (some ⟨blk, off, none⟩) d.size cap, .int .i64 a, .int .i64 m, .int .i64 b, .func (.func g) #[] cb] w (Merged enc (ltOf cf) ix w0 blk off a b d) := by
  have hmix := mixed
  have hst := R.hO.store Try.prog
  have hcl0 := R.hO.cells
  simp only [Value.cells] at hcl0
  have HC : Aside _ := hcmp
  have HIH := Lib.hid IH
  have S0 : Aside (SW enc w0 blk off d w) := S
  obtain ⟨u, hu⟩ : ∃ u : Nat, a + u = m := ⟨m - a, by omega⟩
  obtain ⟨v, hv⟩ : ∃ v : Nat, m + v = b := ⟨b - m, by omega⟩
  have e0 : (m : Int) - (a : Int) = (u : Int) := by omega
  have u1 : ((u : Int) == 1) = false := beq_eq_false_iff_ne.2 (by omega)
  have e1 : (b : Int) - (m : Int) = (v : Int) := by omega
  have v1 : ((v : Int) == 1) = false := beq_eq_false_iff_ne.2 (by omega)
  have hud : u < d.size := by omega
  have hvd : v < d.size := by omega
  obtain ⟨mid, hmid⟩ : ∃ q, q = (a + b) / 2 := ⟨_, rfl⟩
  have em : ((a : Int) + (b : Int)) / 2 = (mid : Int) := by omega
  have m1 : 2 * mid ≤ a + b := by omega
  have m2 : a + b < 2 * mid + 2 := by omega
  have ham2 : a < m := by omega
  have hmb2 : m < b := by omega
  have HS1 := Lib.hid s1
  have HS2 := Lib.hid s2
  have HST := Lib.hid st
  obtain ⟨n, hn⟩ : ∃ n, n = mid + m := ⟨_, rfl⟩
  have en : (mid : Int) + (m : Int) = (n : Int) := by omega
  have hn1 : 1 ≤ n := by omega
  have hn2 : n < 2 * d.size := by omega
  have HN := Lib.hid hn
  clear S hcmp s1 s2 st hu hv hmid IH hn
  go_enter Try.func58, Try.ntmps58
  go_upto_if 140 with fail
  clear e0 u1 e1 v1 em en
  go_cut [20, 21] (fun v20 v21 wx => ∃ s0 r0 : Nat, v20 = .int .i64 s0 ∧ v21 = .int .i64 r0 ∧ Aside (Ini a m b mid s0 r0) ∧ wx = w)
  case first =>
    by_cases hmm : mid < m
    · have hmz : (mid : Int) < (m : Int) := by omega
      obtain ⟨s0, hs0⟩ : ∃ q, q + b = n := ⟨n - b, by have := HN.out; omega⟩
      have es : (n : Int) - (b : Int) = (s0 : Int) := by omega
      have I : Aside (Ini a m b mid s0 mid) := .inl ⟨hmm, by have := HN.out; omega, rfl⟩
      clear hs0
      go_wp2_with fail
      go_meet
      exact ⟨s0, mid, rfl, rfl, I, rfl⟩
    · have hmz : ¬ (mid : Int) < (m : Int) := by omega
      have I : Aside (Ini a m b mid a m) := .inr ⟨by omega, rfl, rfl⟩
      go_wp2_with fail
      go_meet
      exact ⟨a, m, rfl, rfl, I, rfl⟩
  case rest =>
    obtain ⟨s0, r0, rfl, rfl, HI, rfl⟩ := hcut
    obtain ⟨b1, b2, b3, b4, b5, b6, b7⟩ := ini_bd HI.out ham2 hmb2 m1 m2
    obtain ⟨p, hp⟩ : ∃ q, q + 1 = n := ⟨n - 1, by omega⟩
    have ep : (n : Int) - 1 = (p : Int) := by omega
    have HPN := Lib.hid hp
    have hpd : p < 2 * d.size := by omega
    clear hp
    go_wp2_with fail
    go_loopg [20, 21] (r0 - s0) (fun g1 vi vj wr => ∃ s r : Nat, vi = .int .i64 s ∧ vj = .int .i64 r ∧ s0 ≤ s ∧ s ≤ r ∧ r ≤ r0 ∧ r - s ≤ g1 ∧ Aside (SW enc w0 blk off d wr) ∧ Aside (s = s0 ∨ (ltOf cf) d[n - s]! d[s - 1]! = false) ∧ Aside (r = r0 ∨ (ltOf cf) d[n - 1 - r]! d[r]! = true))
    case atStart => exact ⟨s0, r0, rfl, rfl, Nat.le_refl _, b2, Nat.le_refl _, Nat.le_refl _, S0, .inl rfl, .inl rfl⟩
    case round =>
      clear S0 ep
      obtain ⟨s, r, rfl, rfl, k1, k2, k3, hg1, S1, HL, HU⟩ := hrel
      by_cases hsr : s < r
      · have hsz2 : (s : Int) < (r : Int) := by omega
        obtain ⟨c, hc⟩ : ∃ c, c = (s + r) / 2 := ⟨_, rfl⟩
        have c1 : s ≤ c := by omega
        have c2 : c < r := by omega
        have ec : ((s : Int) + (r : Int)) / 2 = (c : Int) := by omega
        obtain ⟨q, hq⟩ : ∃ q, q + c = p := ⟨p - c, by have := HPN.out; have := HN.out; omega⟩
        have eq1 : (p : Int) - (c : Int) = (q : Int) := by omega
        have hqd : q < d.size := by have := HPN.out; have := HN.out; omega
        have hcd : c < d.size := by omega
        have HQC : Hid (n - 1 - c = q ∧ n - (c + 1) = q) := by have := HPN.out; exact ⟨by omega, by omega⟩
        clear hc hq
        cases hlv : (ltOf cf) d[q]! d[c]! with
        | true =>
          obtain ⟨iN, hiN⟩ : ∃ z, z = q := ⟨_, rfl⟩
          obtain ⟨jN, hjN⟩ : ∃ z, z = c := ⟨_, rfl⟩
          have ea : ((q : Int)).toNat = iN := by omega
          have pa : (0 : Int) ≤ (q : Int) := by omega
          have ba : (q : Int) < (d.size : Int) := by omega
          have ra : IntKind.i64.wrap ((q : Int)) = (q : Int) := by rw [IntKind.wrap_i64]; omega
          have ec : ((c : Int)).toNat = jN := by omega
          have pc : (0 : Int) ≤ (c : Int) := by omega
          have bc : (c : Int) < (d.size : Int) := by omega
          have rc : IntKind.i64.wrap ((c : Int)) = (c : Int) := by rw [IntKind.wrap_i64]; omega
          obtain ⟨x, hx⟩ : ∃ x, x = d[q]! := ⟨_, rfl⟩
          obtain ⟨y, hy⟩ : ∃ x, x = d[c]! := ⟨_, rfl⟩
          have la := S1.out.cl R (by omega) (q) (by omega)
          have lb := S1.out.cl R (by omega) (c) (by omega)
          rw [← hx, ← hiN] at la
          rw [← hy, ← hjN] at lb
          have hc := S1.out.cmp HC.out (by omega) x y
          have hv : cf x y < 0 := by rw [hx, hy]; exact of_decide_eq_true hlv
          have hd : decide (cf x y < 0) = true := decide_eq_true hv
          have HLV := Lib.hid hlv
          clear hx hy hiN hjN hlv
          go_wp2_with fail
          go_quiet_grown (first | (go_at_fn g; refine Calls.grown_of (hc _ _)))
          have S2 : Aside (SW enc w0 blk off d (grow (wr.drewN nq) osq)) := S1.out.grown nq osq
          clear la lb hc S1
          generalize grow (wr.drewN nq) osq = w2 at S2 ⊢
          clear nq osq
          clear ea ec
          go_wp2
          go_roundg (c - s)
          case measure => omega
          case rel => exact ⟨s, c, rfl, rfl, k1, by omega, by omega, Nat.le_refl _, S2, HL.out, .inr (by rw [HQC.out.1]; exact HLV.out)⟩
        | false =>
          obtain ⟨iN, hiN⟩ : ∃ z, z = q := ⟨_, rfl⟩
          obtain ⟨jN, hjN⟩ : ∃ z, z = c := ⟨_, rfl⟩
          have ea : ((q : Int)).toNat = iN := by omega
          have pa : (0 : Int) ≤ (q : Int) := by omega
          have ba : (q : Int) < (d.size : Int) := by omega
          have ra : IntKind.i64.wrap ((q : Int)) = (q : Int) := by rw [IntKind.wrap_i64]; omega
          have ec : ((c : Int)).toNat = jN := by omega
          have pc : (0 : Int) ≤ (c : Int) := by omega
          have bc : (c : Int) < (d.size : Int) := by omega
          have rc : IntKind.i64.wrap ((c : Int)) = (c : Int) := by rw [IntKind.wrap_i64]; omega
          obtain ⟨x, hx⟩ : ∃ x, x = d[q]! := ⟨_, rfl⟩
          obtain ⟨y, hy⟩ : ∃ x, x = d[c]! := ⟨_, rfl⟩
          have la := S1.out.cl R (by omega) (q) (by omega)
          have lb := S1.out.cl R (by omega) (c) (by omega)
          rw [← hx, ← hiN] at la
          rw [← hy, ← hjN] at lb
          have hc := S1.out.cmp HC.out (by omega) x y
          have hv : ¬ cf x y < 0 := by rw [hx, hy]; exact of_decide_eq_false hlv
          have hd : decide (cf x y < 0) = false := decide_eq_false hv
          have HLV := Lib.hid hlv
          clear hx hy hiN hjN hlv
          go_wp2_with fail
          go_quiet_grown (first | (go_at_fn g; refine Calls.grown_of (hc _ _)))
          have S2 : Aside (SW enc w0 blk off d (grow (wr.drewN nq) osq)) := S1.out.grown nq osq
          clear la lb hc S1
          generalize grow (wr.drewN nq) osq = w2 at S2 ⊢
          clear nq osq
          clear ea ec
          go_wp2
          go_roundg (r - (c + 1))
          case measure => omega
          case rel => exact ⟨c + 1, r, by go_num, rfl, by omega, by omega, k3, Nat.le_refl _, S2, .inr (by rw [HQC.out.2, Nat.add_sub_cancel]; exact HLV.out), HU.out⟩
      · obtain rfl : s = r := by omega
        have hsz2 : ¬ (s : Int) < (s : Int) := by omega
        obtain ⟨fin, hfin⟩ : ∃ q, s + q = n := ⟨n - s, by have := HN.out; omega⟩
        have ef : (n : Int) - (s : Int) = (fin : Int) := by omega
        have HF := Lib.hid (found_of HI.out ham2 hmb2 m1 m2 k1 k3 (by have := HN.out; omega : s + fin = mid + m) (by have := HL.out; rw [show n - s = fin by omega] at this; exact this) (by have := HU.out; rw [show n - 1 - s = fin - 1 by omega] at this; exact this))
        obtain ⟨f1, f2, f3, f4, f5, f6, f7, _, _⟩ := HF.out
        clear hfin HL HU HI HPN b1 b2 b3 b4 b5 b6 b7 k1 k2 k3 f5
        clear hst hcl0
        obtain ⟨br, hbr⟩ : ∃ z : Bool, z = (decide (s < m) && decide (m < fin)) := ⟨_, rfl⟩
        have Hbr := Lib.hid hbr
        clear hbr
        go_upto_region 39 with fail
        clear ef
        go_cut [185] from 178 to 184 (fun v wx => v = .bool br ∧ Aside (SW enc w0 blk off d wx))
        case first =>
          by_cases h1 : s < m
          · by_cases h2 : m < fin
            · have z1 : (s : Int) < (m : Int) := by omega
              have z2 : (m : Int) < (fin : Int) := by omega
              have e : br = true := by rw [Hbr.out, decide_eq_true h1, decide_eq_true h2]; rfl
              subst e
              go_wp2_with fail
              go_meet
              exact ⟨rfl, S1⟩
            · have z1 : (s : Int) < (m : Int) := by omega
              have z2 : ¬ (m : Int) < (fin : Int) := by omega
              have e : br = false := by rw [Hbr.out, decide_eq_true h1, decide_eq_false h2]; rfl
              subst e
              go_wp2_with fail
              go_meet
              exact ⟨rfl, S1⟩
          · have z1 : ¬ (s : Int) < (m : Int) := by omega
            have e : br = false := by rw [Hbr.out, decide_eq_false h1]; rfl
            subst e
            go_wp2_with fail
            go_meet
            exact ⟨rfl, S1⟩
        case rest =>
          obtain ⟨rfl, S1⟩ := hcut
          go_upto_if 185 with fail
          go_cut [] from 186 to 191 (fun wx => ∃ d1, SW enc w0 blk off d1 wx ∧ Rot s m fin d d1 ∧ PermIn a b d d1)
          case first =>
            cases br with
            | true =>
              have e := Hbr.out
              simp at e
              have e' := Lib.hid e
              clear e
              go_wp2_with fail
              refine (rotate_any enc blk off cap s m fin a b d0 d w0 _ _ R hs S1.out e'.out.1 e'.out.2 (by omega) f1 f4 hb hsz).mono ?_
              rintro e w3 ⟨rfl, d1, hs1, hr1, hp1⟩
              have K : Aside (∃ d1, SW enc w0 blk off d1 w3 ∧ Rot s m fin d d1 ∧ PermIn a b d d1) := ⟨d1, hs1, hr1, hp1⟩
              clear hs1 hr1 hp1
              go_wp2_with fail
              go_meet
              exact K
            | false =>
              have e := Hbr.out
              simp at e
              have K : Aside (∃ d1, SW enc w0 blk off d1 _ ∧ Rot s m fin d d1 ∧ PermIn a b d d1) := ⟨d, S1.out, rot_id (by omega) f2 f3, permIn_refl _ _ _⟩
              clear e
              go_wp2_with fail
              go_meet
              exact K
          case rest =>
            obtain ⟨d1, hs1, hr1, hp1⟩ := hcut
            clear S1
            have S1 : Aside (SW enc w0 blk off d1 _) := hs1
            have HP1 := Lib.hid hp1
            have HR1 := Lib.hid hr1
            have z1 : d1.size = d.size := hr1.1
            have ST1 : Hid (Stab (ltOf cf) ix d1) := stab_rot f2 f3 (by omega) HST.out hr1 (found_strict hS HF.out HS1.out HS2.out)
            have FP := Lib.hid (found_parts HF.out HS1.out HS2.out hb hr1)
            clear hs1 hr1 hp1 HST Hbr
            obtain ⟨bs, hbs⟩ : ∃ z : Bool, z = (decide (a < s) && decide (s < mid)) := ⟨_, rfl⟩
            have Hbs := Lib.hid hbs
            clear hbs
            go_upto_region 41 with fail
            go_cut [199] from 192 to 198 (fun v wx => v = .bool bs ∧ Aside (SW enc w0 blk off d1 wx))
            case first =>
              by_cases h1 : a < s
              · by_cases h2 : s < mid
                · have y1 : (a : Int) < (s : Int) := by omega
                  have y2 : (s : Int) < (mid : Int) := by omega
                  have e : bs = true := by rw [Hbs.out, decide_eq_true h1, decide_eq_true h2]; rfl
                  subst e
                  go_wp2_with fail
                  go_meet
                  exact ⟨rfl, S1⟩
                · have y1 : (a : Int) < (s : Int) := by omega
                  have y2 : ¬ (s : Int) < (mid : Int) := by omega
                  have e : bs = false := by rw [Hbs.out, decide_eq_true h1, decide_eq_false h2]; rfl
                  subst e
                  go_wp2_with fail
                  go_meet
                  exact ⟨rfl, S1⟩
              · have y1 : ¬ (a : Int) < (s : Int) := by omega
                have e : bs = false := by rw [Hbs.out, decide_eq_false h1]; rfl
                subst e
                go_wp2_with fail
                go_meet
                exact ⟨rfl, S1⟩
            case rest =>
              obtain ⟨rfl, S1⟩ := hcut
              go_upto_if 199 with fail
              go_cut [] from 200 to 205 (fun wx => ∃ d2, SW enc w0 blk off d2 wx ∧ PermIn a mid d1 d2 ∧ SortedIn (ltOf cf) a mid d2 ∧ Stab (ltOf cf) ix d2)
              case first =>
                cases bs with
                | true =>
                  have e := Hbs.out
                  simp at e
                  have e' := Lib.hid e
                  clear e
                  go_wp2_with fail
                  refine (HIH.out a s mid d1 _ (by omega) e'.out.1 e'.out.2 (by omega) z1 S1.out FP.out.1 FP.out.2.1 ST1.out).mono ?_
                  rintro e w3 ⟨rfl, d2, hs2, hp2, hq2, ht2⟩
                  have K : Aside (∃ d2, SW enc w0 blk off d2 w3 ∧ PermIn a mid d1 d2 ∧ SortedIn (ltOf cf) a mid d2 ∧ Stab (ltOf cf) ix d2) := ⟨d2, hs2, hp2, hq2, ht2⟩
                  clear hs2 hp2 hq2 ht2
                  go_wp2_with fail
                  go_meet
                  exact K
                | false =>
                  have e := Hbs.out
                  simp at e
                  have q1 : SortedIn (ltOf cf) a mid d1 := by
                    by_cases c : a < s
                    · have := FP.out.1; rw [show s = mid by omega] at this; exact this
                    · have := FP.out.2.1; rw [show s = a by omega] at this; exact this
                  have K : Aside (∃ d2, SW enc w0 blk off d2 _ ∧ PermIn a mid d1 d2 ∧ SortedIn (ltOf cf) a mid d2 ∧ Stab (ltOf cf) ix d2) := ⟨d1, S1.out, permIn_refl _ _ _, q1, ST1.out⟩
                  clear e q1
                  go_wp2_with fail
                  go_meet
                  exact K
              case rest =>
                obtain ⟨d2, hs2, hp2, hq2, ht2⟩ := hcut
                clear S1
                have S1 : Aside (SW enc w0 blk off d2 _) := hs2
                have z2 : d2.size = d1.size := hp2.1
                have same : ∀ lo hi, mid ≤ lo → SortedIn (ltOf cf) lo hi d1 → SortedIn (ltOf cf) lo hi d2 := fun lo hi h1 h2 i j i1 ij j1 => by
                  rw [hp2.2.1 i (.inr (by omega)), hp2.2.1 j (.inr (by omega))]; exact h2 i j i1 ij j1
                have FQ : Hid (SortedIn (ltOf cf) mid fin d2 ∧ SortedIn (ltOf cf) fin b d2) := ⟨same _ _ (Nat.le_refl _) FP.out.2.2.1, same _ _ f7 FP.out.2.2.2⟩
                have HP2 := Lib.hid hp2
                have HQ2 := Lib.hid hq2
                have ST2 := Lib.hid ht2
                have DONE : Hid (∀ d3 w3, SW enc w0 blk off d3 w3 → PermIn mid b d2 d3 → SortedIn (ltOf cf) mid b d3 → Stab (ltOf cf) ix d3 → Merged enc (ltOf cf) ix w0 blk off a b d (.returned (.tuple #[])) w3) := fun d3 w3 t1 t2 t3 t4 =>
                  ⟨rfl, d3, t1, permIn_trans _ _ _ _ _ HP1.out (permIn_trans _ _ _ _ _ (permIn_mono _ _ _ _ _ _ (Nat.le_refl _) (by omega) (by omega) HP2.out) (permIn_mono _ _ _ _ _ _ (by omega) (Nat.le_refl _) (by omega) t2)), merge_done hS HF.out HS1.out HS2.out hb HR1.out HP2.out HQ2.out t2 t3, t4⟩
                clear hs2 hp2 hq2 ht2 same Hbs FP ST1
                by_cases h1 : mid < fin
                · by_cases h2 : fin < b
                  · have y1 : (mid : Int) < (fin : Int) := by omega
                    have y2 : (fin : Int) < (b : Int) := by omega
                    go_wp2_with fail
                    refine (HIH.out mid fin b d2 _ (by omega) h1 h2 hb (by omega) S1.out FQ.out.1 FQ.out.2 ST2.out).mono ?_
                    rintro e w3 ⟨rfl, d3, hs3, hp3, hq3, ht3⟩
                    have K := Lib.hid (DONE.out d3 w3 hs3 hp3 hq3 ht3)
                    clear hs3 hp3 hq3 ht3
                    go_wp2_with fail
                    go_end0
                    exact K.out
                  · have y1 : (mid : Int) < (fin : Int) := by omega
                    have y2 : ¬ (fin : Int) < (b : Int) := by omega
                    have K := Lib.hid (DONE.out d2 _ S1.out (permIn_refl _ _ _) (by have := FQ.out.1; rw [show fin = b by omega] at this; exact this) ST2.out)
                    go_wp2_with fail
                    go_end0
                    exact K.out
                · have y1 : ¬ (mid : Int) < (fin : Int) := by omega
                  have K := Lib.hid (DONE.out d2 _ S1.out (permIn_refl _ _ _) (by have := FQ.out.2; rw [show fin = mid by omega] at this; exact this) ST2.out)
                  go_wp2_with fail
                  go_end0
                  exact K.out

/-- The library's symmetric merge: two sorted neighbours become one sorted part, and stay stable. -/
theorem symMerge_any (enc : α → Value) (cf : α → α → Int) (ix : α → Nat) (g : Nat) (cb : Array Value) (blk off cap n : Nat) (d0 : Array α) (w0 : World)
    (eg : ∀ args w, (callFunc g args).run Try.prog w = .ok (.enter g args) w) (hcmp : CmpLays1 Try.prog g cb enc cf blk off d0.size w0) (hS : SWO (ltOf cf)) (R : Row1 enc w0 blk off d0) (hn : n = d0.size) (hsz : d0.size < 4611686018427387904) :
    ∀ (N a m b : Nat) (d : Array α) (w : World), b - a ≤ N → a < m → m < b → b ≤ n → d.size = n → SW enc w0 blk off d w → SortedIn (ltOf cf) a m d → SortedIn (ltOf cf) m b d → Stab (ltOf cf) ix d →
      Calls Try.prog 58 #[.slice (some ⟨blk, off, none⟩) n cap, .int .i64 a, .int .i64 m, .int .i64 b, .func (.func g) #[] cb] w (Merged enc (ltOf cf) ix w0 blk off a b d) := by
  intro N
  induction N with
  | zero => intro a m b d w h1 h2 h3; omega
  | succ N ih =>
    intro a m b d w h1 h2 h3 h4 h5 S s1 s2 st
    subst h5
    by_cases c1 : m = a + 1
    · exact symMerge_left enc cf ix g cb blk off cap a m b d0 d w0 w eg hcmp hS R hn.symm S c1 h3 h4 (by omega) s2 st
    · by_cases c2 : b = m + 1
      · exact symMerge_right enc cf ix g cb blk off cap a m b d0 d w0 w eg hcmp hS R hn.symm S (by omega) c2 h4 (by omega) s1 st
      · exact symMerge_main enc cf ix g cb blk off cap a m b d0 d w0 w eg hcmp hS R hn.symm S (by omega) (by omega) h4 (by omega) s1 s2 st
          (fun a' m' b' d' w' k1 k2 k3 k4 k5 k6 k7 k8 k9 => ih a' m' b' d' w' (by omega) k2 k3 k4 k5 k6 k7 k8 k9)
end Go.Proofs.Ytenaeehefamdmaa.Sorts
