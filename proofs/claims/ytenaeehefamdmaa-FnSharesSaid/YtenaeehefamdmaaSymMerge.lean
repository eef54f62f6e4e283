/-
  Contract of the library's symmetric merge in a row that a sort owns.
  Conditions: as the contract says.
-/
import Derived.Test.YtenaeehefamdmaaSortWalks
import Derived.Deep.DeepCutAuto
import Derived.Deep.CutBlock
namespace Go.Proofs.Ytenaeehefamdmaa.Sorts
open Go.Shelf Go.RowKit Go.Lib Go.Sort SortPlain
set_option linter.unusedVariables false
variable {α : Type} [Inhabited α]

/-- What a merge returns. -/
def Merged (enc : α → Value) (lt : α → α → Bool) (ix : α → Nat) (w0 : World) (blk off a b : Nat) (d : Array α) (e : Ending) (w' : World) : Prop := e = .returned (.tuple #[]) ∧ ∃ d', SW enc w0 blk off d' w' ∧ PermIn a b d d' ∧ SortedIn lt a b d' ∧ Stab lt ix d'

set_option maxHeartbeats 16000000 in
set_option maxRecDepth 1000000 in
theorem symMerge_left (enc : α → Value) (cf : α → α → Int) (ix : α → Nat) (g : Nat) (cb : Array Value) (blk off cap a m b : Nat) (d0 d : Array α) (w0 w : World)
    (eg : ∀ args w, (callFunc g args).run Try.prog w = .ok (.enter g args) w) (hcmp : CmpLays1 Try.prog g cb enc cf blk off d0.size w0) (hS : SWO (ltOf cf)) (R : Row1 enc w0 blk off d0) (hs : d0.size = d.size) (S : SW enc w0 blk off d w)
    (ham : m = a + 1) (hmb : m < b) (hb : b ≤ d.size) (hsz : d.size < 4611686018427387904) (s2 : SortedIn (ltOf cf) m b d) (st : Stab (ltOf cf) ix d) :
    Calls Try.prog 58 #[.slice (some ⟨blk, off, none⟩) d.size cap, .int .i64 a, .int .i64 m, .int .i64 b, .func (.func g) #[] cb] w (Merged enc (ltOf cf) ix w0 blk off a b d) := by
  have hmix := mixed
  have hst := R.hO.store Try.prog
  have hcl0 := R.hO.cells
  simp only [Value.cells] at hcl0
  have HC : Aside _ := hcmp
  have S0 : Aside (SW enc w0 blk off d w) := S
  have HAM := Lib.hid ham
  have e1 : (m : Int) - (a : Int) = 1 := by omega
  have ham2 : a < m := by omega
  have HS2 := Lib.hid s2
  have HST := Lib.hid st
  clear S ham hcmp s2 st
  go_enter Try.func58, Try.ntmps58
  go_wp2_with fail
  go_loopg [10, 11] (b - m) (fun g1 vi vj wr => ∃ i j : Nat, vi = .int .i64 i ∧ vj = .int .i64 j ∧ m ≤ i ∧ i ≤ j ∧ j ≤ b ∧ j - i ≤ g1 ∧ Aside (SW enc w0 blk off d wr) ∧ Aside (i = m ∨ (ltOf cf) d[i - 1]! d[a]! = true) ∧ Aside (j = b ∨ (ltOf cf) d[j]! d[a]! = false))
  case atStart => exact ⟨m, b, rfl, rfl, Nat.le_refl _, by omega, Nat.le_refl _, Nat.le_refl _, S0, .inl rfl, .inl rfl⟩
  case round =>
    clear S0 e1
    obtain ⟨i, j, rfl, rfl, k1, k2, k3, hg1, S1, HL, HU⟩ := hrel
    by_cases hij : i < j
    · have hijz : (i : Int) < (j : Int) := by omega
      obtain ⟨h, hh⟩ : ∃ h, h = (i + j) / 2 := ⟨_, rfl⟩
      have h1 : i ≤ h := by omega
      have h2 : h < j := by omega
      have eh : ((i : Int) + (j : Int)) / 2 = (h : Int) := by omega
      clear hh
      cases hlv : (ltOf cf) d[h]! d[a]! with
      | true =>
        obtain ⟨iN, hiN⟩ : ∃ q, q = h := ⟨_, rfl⟩
        obtain ⟨jN, hjN⟩ : ∃ q, q = a := ⟨_, rfl⟩
        have ea : ((h : Int)).toNat = iN := by omega
        have pa : (0 : Int) ≤ (h : Int) := by omega
        have ba : (h : Int) < (d.size : Int) := by omega
        have ra : IntKind.i64.wrap ((h : Int)) = (h : Int) := by rw [IntKind.wrap_i64]; omega
        have ec : ((a : Int)).toNat = jN := by omega
        have pc : (0 : Int) ≤ (a : Int) := by omega
        have bc : (a : Int) < (d.size : Int) := by omega
        have rc : IntKind.i64.wrap ((a : Int)) = (a : Int) := by rw [IntKind.wrap_i64]; omega
        obtain ⟨x, hx⟩ : ∃ x, x = d[h]! := ⟨_, rfl⟩
        obtain ⟨y, hy⟩ : ∃ x, x = d[a]! := ⟨_, rfl⟩
        have la := S1.out.cl R (by omega) (h) (by omega)
        have lb := S1.out.cl R (by omega) (a) (by omega)
        rw [← hx, ← hiN] at la
        rw [← hy, ← hjN] at lb
        have hc := S1.out.cmp HC.out (by omega) x y
        have hv : cf x y < 0 := by rw [hx, hy]; exact of_decide_eq_true hlv
        have hd : decide (cf x y < 0) = true := decide_eq_true hv
        have HLV := Lib.hid hlv
        clear hx hy hiN hjN hlv
        go_wp2_with fail
        go_quiet_grown (first | (go_at_fn g; refine Calls.grown_of (hc _ _)))
        have S2 : Aside (SW enc w0 blk off d (grow (wr.drewN nq) osq)) := S1.out.grown nq osq
        clear la lb hc S1
        generalize grow (wr.drewN nq) osq = w2 at S2 ⊢
        clear nq osq
        clear ea ec
        go_wp2
        go_roundg (j - (h + 1))
        case measure => omega
        case rel => exact ⟨h + 1, j, by go_num, rfl, by omega, by omega, k3, Nat.le_refl _, S2, .inr HLV.out, HU.out⟩
      | false =>
        obtain ⟨iN, hiN⟩ : ∃ q, q = h := ⟨_, rfl⟩
        obtain ⟨jN, hjN⟩ : ∃ q, q = a := ⟨_, rfl⟩
        have ea : ((h : Int)).toNat = iN := by omega
        have pa : (0 : Int) ≤ (h : Int) := by omega
        have ba : (h : Int) < (d.size : Int) := by omega
        have ra : IntKind.i64.wrap ((h : Int)) = (h : Int) := by rw [IntKind.wrap_i64]; omega
        have ec : ((a : Int)).toNat = jN := by omega
        have pc : (0 : Int) ≤ (a : Int) := by omega
        have bc : (a : Int) < (d.size : Int) := by omega
        have rc : IntKind.i64.wrap ((a : Int)) = (a : Int) := by rw [IntKind.wrap_i64]; omega
        obtain ⟨x, hx⟩ : ∃ x, x = d[h]! := ⟨_, rfl⟩
        obtain ⟨y, hy⟩ : ∃ x, x = d[a]! := ⟨_, rfl⟩
        have la := S1.out.cl R (by omega) (h) (by omega)
        have lb := S1.out.cl R (by omega) (a) (by omega)
        rw [← hx, ← hiN] at la
        rw [← hy, ← hjN] at lb
        have hc := S1.out.cmp HC.out (by omega) x y
        have hv : ¬ cf x y < 0 := by rw [hx, hy]; exact of_decide_eq_false hlv
        have hd : decide (cf x y < 0) = false := decide_eq_false hv
        have HLV := Lib.hid hlv
        clear hx hy hiN hjN hlv
        go_wp2_with fail
        go_quiet_grown (first | (go_at_fn g; refine Calls.grown_of (hc _ _)))
        have S2 : Aside (SW enc w0 blk off d (grow (wr.drewN nq) osq)) := S1.out.grown nq osq
        clear la lb hc S1
        generalize grow (wr.drewN nq) osq = w2 at S2 ⊢
        clear nq osq
        clear ea ec
        go_wp2
        go_roundg (h - i)
        case measure => omega
        case rel => exact ⟨i, h, rfl, rfl, k1, by omega, by omega, Nat.le_refl _, S2, HL.out, .inr HLV.out⟩
    · obtain rfl : i = j := by omega
      have hijz : ¬ (i : Int) < (i : Int) := by omega
      obtain ⟨ip, hip⟩ : ∃ q, q + 1 = i := ⟨i - 1, by omega⟩
      have e2 : (i : Int) - 1 = (ip : Int) := by omega
      have hai : a ≤ ip := by omega
      have hipb : ip + 1 ≤ d.size := by omega
      have HIP := Lib.hid hip
      have HIB : Hid (i ≤ b) := k3
      have HMI : Hid (m ≤ i) := k1
      clear hip
      go_wp2_with fail
      go_loopg [13] (ip - a) (fun g2 vk wr => ∃ (k : Nat) (dk : Array α), vk = .int .i64 k ∧ a ≤ k ∧ k ≤ ip ∧ ip - k ≤ g2 ∧ dk.size = d.size ∧ Aside (SW enc w0 blk off dk wr) ∧ Aside (Rot a (a + 1) (k + 1) d dk) ∧ Aside (PermIn a b d dk))
      case atStart => exact ⟨a, d, rfl, Nat.le_refl _, hai, Nat.le_refl _, rfl, S1, rot_id (.inr rfl) (by omega) (by omega), permIn_refl _ _ _⟩
      case round =>
        clear S1 k1 k2 k3
        obtain ⟨k, dk, rfl, r1, r2, hg2, hsk, S1, HR, HP⟩ := hrel
        by_cases hk : k < ip
        · have hkz : (k : Int) < (ip : Int) := by omega
          have hkb : k + 1 < b := by have := HIP.out; have := HIB.out; omega
          obtain ⟨iN, hiN⟩ : ∃ q, q = k := ⟨_, rfl⟩
          obtain ⟨jN, hjN⟩ : ∃ q, q = k + 1 := ⟨_, rfl⟩
          have ea : ((k : Int)).toNat = iN := by omega
          have pa : (0 : Int) ≤ (k : Int) := by omega
          have ba : (k : Int) < (d.size : Int) := by omega
          have ra : IntKind.i64.wrap ((k : Int)) = (k : Int) := by rw [IntKind.wrap_i64]; omega
          have ec : ((k : Int) + 1).toNat = jN := by omega
          have pc : (0 : Int) ≤ (k : Int) + 1 := by omega
          have bc : (k : Int) + 1 < (d.size : Int) := by omega
          have rc : IntKind.i64.wrap ((k : Int) + 1) = (k : Int) + 1 := by rw [IntKind.wrap_i64]; omega
          obtain ⟨x, hx⟩ : ∃ x, x = dk[k]! := ⟨_, rfl⟩
          obtain ⟨y, hy⟩ : ∃ x, x = dk[k + 1]! := ⟨_, rfl⟩
          have S3 : Aside (SW enc w0 blk off (swp dk (k) (k + 1)) ((wr.setCell ⟨blk, off + iN, none⟩ (enc y)).setCell ⟨blk, off + jN, none⟩ (enc x)).drew) := by rw [hiN, hjN, hx, hy]; exact S1.out.swapped R (k) (k + 1) (by omega) (by omega)
          have ca := S1.out.c1 R (by omega) (k) (by omega)
          have cb := S1.out.c1 R (by omega) (k + 1) (by omega)
          have fa := S1.out.f1 R (by omega) (k) (by omega)
          have fb := S1.out.f1 R (by omega) (k + 1) (by omega)
          obtain ⟨u, cc⟩ := S1.out.c2 R (by omega) (k) (k + 1) (by omega) (by omega) (enc y)
          rw [← hjN, ← hiN] at cc
          rw [← hx, ← hiN] at ca
          rw [← hy, ← hjN] at cb
          rw [← hiN] at fa
          rw [← hjN] at fb
          clear S1 hx hy hiN hjN
          go_wp2_with fail
          go_big_region_o
          clear ca cb cc fa fb ea ec
          generalize ((wr.setCell ⟨blk, off + iN, none⟩ (enc y)).setCell ⟨blk, off + jN, none⟩ (enc x)).drew = w3 at S3 ⊢
          go_wp2
          go_roundg (ip - (k + 1))
          case measure => omega
          case rel => exact ⟨k + 1, swp dk k (k + 1), by go_num, by omega, by omega, Nat.le_refl _, by rw [swp_size]; exact hsk, S3, rot_up HR.out r1 (by omega), permIn_trans _ _ _ _ _ HP.out (swp_permIn dk a b _ _ (by omega) (by omega) (by omega) (by omega) (by omega))⟩
        · obtain rfl : k = ip := by omega
          have hkz : ¬ (k : Int) < (k : Int) := by omega
          go_wp2
          try simp only [Exit.inBlock, Exit.then]
          refine bodyPost_ret (results_none rfl _ _ _) rfl ?_
          have h1 := HIP.out
          have h2 := HAM.out
          have G : Rot a (a + 1) i d dk := by have := HR.out; rw [h1] at this; exact this
          have s2' : SortedIn (ltOf cf) (a + 1) b d := by rw [← h2]; exact HS2.out
          have hL : i = a + 1 ∨ (ltOf cf) d[i - 1]! d[a]! = true := by rw [← h2]; exact HL.out
          obtain ⟨q1, q2⟩ := merge_left hS s2' hb (by rw [← h2]; exact HMI.out) HIB.out hL HU.out G
          exact ⟨rfl, dk, S1.out, HP.out, q1, stab_rot (by omega) (by rw [← h2]; exact HMI.out) (by have := HIB.out; omega) HST.out G q2⟩
set_option maxHeartbeats 16000000 in
set_option maxRecDepth 1000000 in
theorem symMerge_right (enc : α → Value) (cf : α → α → Int) (ix : α → Nat) (g : Nat) (cb : Array Value) (blk off cap a m b : Nat) (d0 d : Array α) (w0 w : World)
    (eg : ∀ args w, (callFunc g args).run Try.prog w = .ok (.enter g args) w) (hcmp : CmpLays1 Try.prog g cb enc cf blk off d0.size w0) (hS : SWO (ltOf cf)) (R : Row1 enc w0 blk off d0) (hs : d0.size = d.size) (S : SW enc w0 blk off d w)
    (ham : a + 1 < m) (hmb : b = m + 1) (hb : b ≤ d.size) (hsz : d.size < 4611686018427387904) (s1 : SortedIn (ltOf cf) a m d) (st : Stab (ltOf cf) ix d) :
    Calls Try.prog 58 #[.slice (some ⟨blk, off, none⟩) d.size cap, .int .i64 a, .int .i64 m, .int .i64 b, .func (.func g) #[] cb] w (Merged enc (ltOf cf) ix w0 blk off a b d) := by
  have hmix := mixed
  have hst := R.hO.store Try.prog
  have hcl0 := R.hO.cells
  simp only [Value.cells] at hcl0
  have HC : Aside _ := hcmp
  have S0 : Aside (SW enc w0 blk off d w) := S
  have HMB := Lib.hid hmb
  obtain ⟨u, hu⟩ : ∃ u : Nat, a + u = m := ⟨m - a, by omega⟩
  have e0 : (m : Int) - (a : Int) = (u : Int) := by omega
  have u1 : ((u : Int) == 1) = false := beq_eq_false_iff_ne.2 (by omega)
  have e1 : (b : Int) - (m : Int) = 1 := by omega
  have ham2 : a < m := by omega
  have hmb2 : m < b := by omega
  have hud : u < d.size := by omega
  have HS1 := Lib.hid s1
  have HST := Lib.hid st
  clear S ham hmb hcmp s1 st hu
  go_enter Try.func58, Try.ntmps58
  go_wp2_with fail
  go_loopg [14, 15] (m - a) (fun g1 vi vj wr => ∃ i j : Nat, vi = .int .i64 i ∧ vj = .int .i64 j ∧ a ≤ i ∧ i ≤ j ∧ j ≤ m ∧ j - i ≤ g1 ∧ Aside (SW enc w0 blk off d wr) ∧ Aside (i = a ∨ (ltOf cf) d[m]! d[i - 1]! = false) ∧ Aside (j = m ∨ (ltOf cf) d[m]! d[j]! = true))
  case atStart => exact ⟨a, m, rfl, rfl, Nat.le_refl _, by omega, Nat.le_refl _, Nat.le_refl _, S0, .inl rfl, .inl rfl⟩
  case round =>
    clear S0 e0 e1 u1
    obtain ⟨i, j, rfl, rfl, k1, k2, k3, hg1, S1, HL, HU⟩ := hrel
    by_cases hij : i < j
    · have hijz : (i : Int) < (j : Int) := by omega
      obtain ⟨h, hh⟩ : ∃ h, h = (i + j) / 2 := ⟨_, rfl⟩
      have h1 : i ≤ h := by omega
      have h2 : h < j := by omega
      have eh : ((i : Int) + (j : Int)) / 2 = (h : Int) := by omega
      clear hh
      cases hlv : (ltOf cf) d[m]! d[h]! with
      | true =>
        obtain ⟨iN, hiN⟩ : ∃ q, q = m := ⟨_, rfl⟩
        obtain ⟨jN, hjN⟩ : ∃ q, q = h := ⟨_, rfl⟩
        have ea : ((m : Int)).toNat = iN := by omega
        have pa : (0 : Int) ≤ (m : Int) := by omega
        have ba : (m : Int) < (d.size : Int) := by omega
        have ra : IntKind.i64.wrap ((m : Int)) = (m : Int) := by rw [IntKind.wrap_i64]; omega
        have ec : ((h : Int)).toNat = jN := by omega
        have pc : (0 : Int) ≤ (h : Int) := by omega
        have bc : (h : Int) < (d.size : Int) := by omega
        have rc : IntKind.i64.wrap ((h : Int)) = (h : Int) := by rw [IntKind.wrap_i64]; omega
        obtain ⟨x, hx⟩ : ∃ x, x = d[m]! := ⟨_, rfl⟩
        obtain ⟨y, hy⟩ : ∃ x, x = d[h]! := ⟨_, rfl⟩
        have la := S1.out.cl R (by omega) (m) (by omega)
        have lb := S1.out.cl R (by omega) (h) (by omega)
        rw [← hx, ← hiN] at la
        rw [← hy, ← hjN] at lb
        have hc := S1.out.cmp HC.out (by omega) x y
        have hv : cf x y < 0 := by rw [hx, hy]; exact of_decide_eq_true hlv
        have hd : decide (cf x y < 0) = true := decide_eq_true hv
        have HLV := Lib.hid hlv
        clear hx hy hiN hjN hlv
        go_wp2_with fail
        go_quiet_grown (first | (go_at_fn g; refine Calls.grown_of (hc _ _)))
        have S2 : Aside (SW enc w0 blk off d (grow (wr.drewN nq) osq)) := S1.out.grown nq osq
        clear la lb hc S1
        generalize grow (wr.drewN nq) osq = w2 at S2 ⊢
        clear nq osq
        clear ea ec
        go_wp2
        go_roundg (h - i)
        case measure => omega
        case rel => exact ⟨i, h, rfl, rfl, k1, by omega, by omega, Nat.le_refl _, S2, HL.out, .inr HLV.out⟩
      | false =>
        obtain ⟨iN, hiN⟩ : ∃ q, q = m := ⟨_, rfl⟩
        obtain ⟨jN, hjN⟩ : ∃ q, q = h := ⟨_, rfl⟩
        have ea : ((m : Int)).toNat = iN := by omega
        have pa : (0 : Int) ≤ (m : Int) := by omega
        have ba : (m : Int) < (d.size : Int) := by omega
        have ra : IntKind.i64.wrap ((m : Int)) = (m : Int) := by rw [IntKind.wrap_i64]; omega
        have ec : ((h : Int)).toNat = jN := by omega
        have pc : (0 : Int) ≤ (h : Int) := by omega
        have bc : (h : Int) < (d.size : Int) := by omega
        have rc : IntKind.i64.wrap ((h : Int)) = (h : Int) := by rw [IntKind.wrap_i64]; omega
        obtain ⟨x, hx⟩ : ∃ x, x = d[m]! := ⟨_, rfl⟩
        obtain ⟨y, hy⟩ : ∃ x, x = d[h]! := ⟨_, rfl⟩
        have la := S1.out.cl R (by omega) (m) (by omega)
        have lb := S1.out.cl R (by omega) (h) (by omega)
        rw [← hx, ← hiN] at la
        rw [← hy, ← hjN] at lb
        have hc := S1.out.cmp HC.out (by omega) x y
        have hv : ¬ cf x y < 0 := by rw [hx, hy]; exact of_decide_eq_false hlv
        have hd : decide (cf x y < 0) = false := decide_eq_false hv
        have HLV := Lib.hid hlv
        clear hx hy hiN hjN hlv
        go_wp2_with fail
        go_quiet_grown (first | (go_at_fn g; refine Calls.grown_of (hc _ _)))
        have S2 : Aside (SW enc w0 blk off d (grow (wr.drewN nq) osq)) := S1.out.grown nq osq
        clear la lb hc S1
        generalize grow (wr.drewN nq) osq = w2 at S2 ⊢
        clear nq osq
        clear ea ec
        go_wp2
        go_roundg (j - (h + 1))
        case measure => omega
        case rel => exact ⟨h + 1, j, by go_num, rfl, by omega, by omega, k3, Nat.le_refl _, S2, .inr HLV.out, HU.out⟩
    · obtain rfl : i = j := by omega
      have hijz : ¬ (i : Int) < (i : Int) := by omega
      have HIM : Hid (i ≤ m) := k3
      have HAI : Hid (a ≤ i) := k1
      go_wp2_with fail
      go_loopg [17] (m - i) (fun g2 vk wr => ∃ (k : Nat) (dk : Array α), vk = .int .i64 k ∧ i ≤ k ∧ k ≤ m ∧ k - i ≤ g2 ∧ dk.size = d.size ∧ Aside (SW enc w0 blk off dk wr) ∧ Aside (Rot k m (m + 1) d dk) ∧ Aside (PermIn a b d dk))
      case atStart => exact ⟨m, d, rfl, k3, Nat.le_refl _, Nat.le_refl _, rfl, S1, rot_id (.inl rfl) (by omega) (by omega), permIn_refl _ _ _⟩
      case round =>
        clear S1
        obtain ⟨k, dk, rfl, r1, r2, hg2, hsk, S1, HR, HP⟩ := hrel
        by_cases hk : i < k
        · obtain ⟨kp, hkp⟩ : ∃ q, q + 1 = k := ⟨k - 1, by omega⟩
          have ez : (k : Int) - 1 = (kp : Int) := by omega
          have hkz : (i : Int) < (k : Int) := by omega
          obtain ⟨iN, hiN⟩ : ∃ q, q = k := ⟨_, rfl⟩
          obtain ⟨jN, hjN⟩ : ∃ q, q = kp := ⟨_, rfl⟩
          have ea : ((k : Int)).toNat = iN := by omega
          have pa : (0 : Int) ≤ (k : Int) := by omega
          have ba : (k : Int) < (d.size : Int) := by omega
          have ra : IntKind.i64.wrap ((k : Int)) = (k : Int) := by rw [IntKind.wrap_i64]; omega
          have ec : ((kp : Int)).toNat = jN := by omega
          have pc : (0 : Int) ≤ (kp : Int) := by omega
          have bc : (kp : Int) < (d.size : Int) := by omega
          have rc : IntKind.i64.wrap ((kp : Int)) = (kp : Int) := by rw [IntKind.wrap_i64]; omega
          obtain ⟨x, hx⟩ : ∃ x, x = dk[k]! := ⟨_, rfl⟩
          obtain ⟨y, hy⟩ : ∃ x, x = dk[kp]! := ⟨_, rfl⟩
          have S3 : Aside (SW enc w0 blk off (swp dk (k) (kp)) ((wr.setCell ⟨blk, off + iN, none⟩ (enc y)).setCell ⟨blk, off + jN, none⟩ (enc x)).drew) := by rw [hiN, hjN, hx, hy]; exact S1.out.swapped R (k) (kp) (by omega) (by omega)
          have ca := S1.out.c1 R (by omega) (k) (by omega)
          have cb := S1.out.c1 R (by omega) (kp) (by omega)
          have fa := S1.out.f1 R (by omega) (k) (by omega)
          have fb := S1.out.f1 R (by omega) (kp) (by omega)
          obtain ⟨u, cc⟩ := S1.out.c2 R (by omega) (k) (kp) (by omega) (by omega) (enc y)
          rw [← hjN, ← hiN] at cc
          rw [← hx, ← hiN] at ca
          rw [← hy, ← hjN] at cb
          rw [← hiN] at fa
          rw [← hjN] at fb
          clear S1 hx hy hiN hjN
          go_wp2_with fail
          go_big_region_o
          clear ca cb cc fa fb ea ec
          generalize ((wr.setCell ⟨blk, off + iN, none⟩ (enc y)).setCell ⟨blk, off + jN, none⟩ (enc x)).drew = w3 at S3 ⊢
          have HKP := Lib.hid hkp
          clear hkp
          go_wp2
          go_roundg (kp - i)
          case measure => have := HKP.out; omega
          case rel =>
            have e := HKP.out
            subst e
            exact ⟨kp, swp dk (kp + 1) kp, rfl, by omega, by omega, Nat.le_refl _, by rw [swp_size]; exact hsk, S3, rot_down HR.out r2 (by omega), permIn_trans _ _ _ _ _ HP.out (swp_permIn dk a b _ _ (by omega) (by omega) (by omega) (by omega) (by omega))⟩
        · obtain rfl : k = i := by omega
          have hkz : ¬ (k : Int) < (k : Int) := by omega
          go_wp2
          try simp only [Exit.inBlock, Exit.then]
          refine bodyPost_ret (results_none rfl _ _ _) rfl ?_
          have h1 := HMB.out
          subst h1
          obtain ⟨q1, q2⟩ := merge_right hS HS1.out hb HAI.out HIM.out HL.out HU.out HR.out
          exact ⟨rfl, dk, S1.out, HP.out, q1, stab_rot HIM.out (by omega) hb HST.out HR.out q2⟩
end Go.Proofs.Ytenaeehefamdmaa.Sorts
