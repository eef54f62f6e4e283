/-
  Proved: the law FnShares returns true, for every input.
  Conditions: none: the given statement Rows.FnSharesSaid, as it stands.
-/
import Derived.Test.YtenaeehefamdmaaRows
import Derived.WalkKit
import Derived.ProofKit
import Derived.OpenShut
import Derived.ShutString
import Derived.ChangeOld
import Derived.Below
import Derived.IntWalk
import Derived.Test.YtenaeehefamdmaaShareLaw
import Derived.Test.YtenaeehefamdmaaDraws10
import Derived.Test.YtenaeehefamdmaaLikes
namespace Go.Proofs.Ytenaeehefamdmaa.fnShares
open Go.ChangeShapes Go.WideShapes Go.ChangeAt Go.RowKit
open Go.ChangeMaps (open_string shut_string)
set_option linter.unusedVariables false

theorem own : ownKnob Try.prog.godebug = none := by kernel_rfl
theorem laidOut : laidOutB Try.prog = true := by kernel_rfl

open Mem

theorem rd_parts {w : World} {a : Option Addr} {n c : Nat} {xs : List Int} (h : Rd w (.slice a n c) xs) (hn : 1 ≤ xs.length) : ∃ b off, a = some ⟨b, off, none⟩ ∧ b < w.heap.size ∧ ∀ i, i < xs.length → w.cell? ⟨b, off + i, none⟩ = some (.int .i64 (xs.getD i 0)) := by
  rcases h with ⟨_, rfl⟩ | ⟨b, off, cap, hv, _, _, _, hb, hx⟩
  · simp at hn
  · injection hv with hv
    exact ⟨b, off, hv, hb, hx⟩

set_option maxHeartbeats 2000000 in
set_option maxRecDepth 100000 in
theorem walk (a0 : Option Addr) (len0 cap0 : Nat) (z0 : List Int) (w : World) (w0 : IsRow .u8 w a0 len0 cap0 z0) :
    Calls Try.prog 5 #[.slice a0 len0 cap0] w fun e w' => e = .returned (.bool true) ∧ Below w.heap.size w w' := by
  have hlen : len0 ≤ 9223372036854775807 := by
    rcases w0 with ⟨_, rfl, _⟩ | ⟨_, _, h1, h2, _⟩
    · omega
    · unfold maxLen at h2; omega
  by_cases hbig : 4096 < len0
  · clear w0
    go_enter Try.func5, Try.ntmps5
    go_wp2
    go_ret
    exact ⟨rfl, Below.refl _ _⟩
  go_enter Try.func5, Try.ntmps5
  go_wp2_with (go_at_call 19; go_in)
  refine (Draws.drawShareOut _ _ _ _ _ w0 (by omega)).mono ?_; rintro e w1 ⟨A, v, ws, rfl, hv, hl1, hsum, hB⟩
  have HB1 := Lib.hid hB
  have RV := Lib.hid hv
  obtain ⟨va, vc, rfl, _⟩ := rd_shape hv
  clear w0 hB hv
  have HSUM := Lib.hid hsum
  clear hsum
  go_wp2_with fail
  refine (Shares.implShareOut_any A _ ws _ RV.out).mono ?_; rintro e w2 ⟨u, os, c, rfl, hone, hs, hb⟩
  have ONE := Lib.hid hone
  have HB2 := Lib.hid (bl HB1.out hb)
  have RV2 := Lib.hid (RV.out.below hb)
  have RU2 := Lib.hid hs.rd
  obtain ⟨ua, uc, rfl⟩ := sl_shape hs
  clear hone hs hb
  go_wp2_with fail
  refine (Shares.specShareOut_any A _ ws _ RV2.out).mono ?_; rintro e w3 ⟨u', os', c', rfl, hall, hs, hb⟩
  obtain ⟨rfl, rfl⟩ := Shares.one_all hall ONE.out
  have HB3 := Lib.hid (bl HB2.out hb)
  have RV3 := Lib.hid (RV2.out.below hb)
  have RU3 := Lib.hid (RU2.out.below hb)
  have RW3 := Lib.hid hs.rd
  obtain ⟨wa, wc, rfl⟩ := sl_shape hs
  clear hall hs hb
  go_wp2_with fail
  refine (Likes.likeInts_yes _ _ os _ RU3.out RW3.out).mono ?_; rintro e w4 ⟨rfl, hb⟩
  have HB4 := Lib.hid (bl HB3.out hb)
  have RV4 := Lib.hid (RV3.out.below hb)
  have RU4 := Lib.hid (RU3.out.below hb)
  clear hb
  rcases ONE.out with ⟨hk, hT, rfl, n, d, hln, hV, ho⟩ | ⟨_, _, rfl⟩ | ⟨_, _, _, rfl⟩
  · obtain ⟨k0, k1, k2, k3⟩ := hk
    obtain ⟨LN, SU, PT⟩ := Shares.shares_law hV hln k2 k0 hT os ho
    have hpos : 1 ≤ ws.length := by omega
    have hT2 : ws.sum ≤ 1000010000 := HSUM.out
    have PTH := Lib.hid PT
    have SUH := Lib.hid SU
    have WGH := Lib.hid (fun i hi => within_get k2 i hi)
    have S1 := Lib.hid (fun w h => Likes.sum_any (.slice va ws.length vc) ws w h 1000000000 (by omega) (within_mono k2 (by omega) (by omega)) (by omega))
    have WO : within (-1000000001) 1000000001 os = true := within_of fun i hi => by have := PT i (by omega); omega
    have S2 := Lib.hid (fun v w h => Likes.sum_any v os w h 1000000001 (by omega) WO (by omega))
    have LNH := Lib.hid LN
    generalize hol : os.length = ol at *
    subst LN
    clear hln hV ho PT SU k2 WO
    generalize ws.sum = T at *
    go_wp2_with fail
    refine (S1.out _ RV4.out).mono ?_; rintro e w5 ⟨rfl, hb⟩
    have HB5 := Lib.hid (bl HB4.out hb)
    have RV5 := Lib.hid (RV4.out.below hb)
    have RU5 := Lib.hid (RU4.out.below hb)
    clear hb
    obtain ⟨bv, fv, rfl, _, hcv⟩ := rd_parts RV5.out hpos
    obtain ⟨bu, fu, rfl, _, hcu⟩ := rd_parts RU5.out (by omega)
    have CV := Lib.hid hcv
    have CU := Lib.hid hcu
    have OL := Lib.hid hol
    clear hcv hcu hol
    go_wp2_with fail
    go_loopw [10] (fun vi wr => ∃ i q : Nat, vi = .int .i64 i ∧ i ≤ ws.length ∧ wr = w5.drewN q) (fun vi _ => ws.length - (intOf vi).toNat)
    case atStart => exact ⟨0, 0, rfl, Nat.zero_le _, rfl⟩
    case round =>
      obtain ⟨i, q, rfl, hi, rfl⟩ := hrel
      by_cases hlt : i < ws.length
      · have c1 : (w5.drewN q).cell? ⟨bv, fv + i, none⟩ = some (.int .i64 (ws.getD i 0)) := CV.out i hlt
        have c2 : (w5.drewN q).cell? ⟨bu, fu + i, none⟩ = some (.int .i64 (os.getD i 0)) := CU.out i (by rw [OL.out]; exact hlt)
        have c3 : w5.cell? ⟨bv, fv + i, none⟩ = some (.int .i64 (ws.getD i 0)) := CV.out i hlt
        have c4 : w5.cell? ⟨bu, fu + i, none⟩ = some (.int .i64 (os.getD i 0)) := CU.out i (by rw [OL.out]; exact hlt)
        obtain ⟨x0, x1, x2, x3⟩ := PTH.out i hlt
        obtain ⟨y0, y1⟩ := WGH.out i hlt
        generalize ws.getD i 0 = y at *
        generalize os.getD i 0 = x at *
        have p0 : 0 ≤ x * T ∧ x * T ≤ 2000000000000000000 := ⟨Int.mul_nonneg x0 (by omega), by have := Int.mul_le_mul (show x ≤ 1000000001 by omega) hT2 (by omega) (by omega); omega⟩
        have r0 : 0 ≤ A * y ∧ A * y ≤ 1000000000000000000 := ⟨Int.mul_nonneg k0 y0, by have := Int.mul_le_mul k1 y1 y0 (by omega); omega⟩
        obtain ⟨p0, p1⟩ := p0
        obtain ⟨r0, r1⟩ := r0
        have i0 : (0 : Int) ≤ (i : Int) := by omega
        have i1 : (i : Int) < (ws.length : Int) := by omega
        go_wp2_with fail
        go_quiet (fail)
        go_wp2
        go_roundw
        case rel => exact ⟨i + 1, _, by go_num, by omega, by first | rfl | exact World.drewN_drewN ..⟩
        case measure => simp [intOf]; omega
      · obtain rfl : i = ws.length := by omega
        have i1 : ¬ ((ws.length : Int) < (ws.length : Int)) := by omega
        go_wp2_with fail
        refine (S2.out _ _ (RU5.out.below (bd w5 q))).mono ?_; rintro e w6 ⟨rfl, hb⟩
        rw [SUH.out]
        go_wp2
        go_ret
        exact ⟨rfl, bl HB5.out (bl (bd w5 q) hb)⟩
  · go_wp2
    go_ret
    exact ⟨rfl, HB4.out⟩
  · go_wp2
    go_ret
    exact ⟨rfl, HB4.out⟩

set_option maxRecDepth 100000 in
theorem lifted (os : Os) (started : os.Started) (H : Type) (enc : TypeId × Value → H) :
    ReturnsInHanded {} Try.checked os 5 .any (Rows.fnSharesSpec.pre6 enc Try.prog Try.f5 Rows.fnSharesRow.domain false) (Rows.fnSharesSpec.post enc Try.prog Try.f5 false true false false) := by
  refine returnsInHanded_of_change (C := Try.checked) own started (by kernel_rfl) Try.func5
    (ChangeSpec.witness6 (enc := enc) (C := Try.checked) false ⟨#[], #[.slice none 0 0], []⟩ 8 (by kernel_rfl) (by kernel_rfl) (by kernel_rfl) (by kernel_rfl)) ?_
  intro W base args ds gs before hval0 hW hcnd _
  have hval : ∀ (j : Nat) t v, Try.f5.params[j]? = some t → args[j]? = some v → Value.okWide Try.prog W .any base t v := hval0
  have hW' := hW
  obtain ⟨p, q, hA0, hV, rfl, hfz, hnd⟩ := hW
  have hA : DataW.TrodAll enc Try.prog W 0 (fun _ => true) true Try.f5.params.toList args.toList ds p := hA0
  rw [Try.params5] at hA hval
  obtain ⟨v0, vs0, d0, ds0, p0, q0, hargs, rfl, rfl, h0, r0⟩ := trodAll_cons hA
  obtain ⟨rfl, rfl, rfl⟩ := trodAll_nil r0
  obtain rfl : args = #[v0] := by cases args; simp_all
  obtain ⟨rfl, rfl⟩ := trodVars_none hV
  obtain ⟨a0, len0, cap0, rfl⟩ := okWide_slice Try.underlying39 (hval 0 39 v0 rfl rfl)
  have k0 := h0
  have lt0 : ∀ x ∈ p0, x.block < W.heap.size := by obtain ⟨m, hm⟩ := k0; exact DataW.trod_lt m _ _ _ hm
  obtain ⟨z0, w0⟩ : ∃ zs, IsRow .u8 W a0 len0 cap0 zs := by
    obtain ⟨fuel, hf⟩ := h0
    rcases open_ints Try.underlying39 Try.underlying5 (by kernel_rfl) hf with ⟨hcs, _⟩ | ⟨x, l, c, zs, hcs, _, hl, hm, hz, _, hcell, hwz⟩
    · simp [Value.cells] at hcs
      obtain ⟨rfl, rfl, rfl⟩ := hcs
      exact ⟨[], .inl ⟨rfl, rfl, rfl, rfl⟩⟩
    · simp [Value.cells] at hcs
      obtain ⟨rfl, rfl, rfl⟩ := hcs
      exact ⟨zs, .inr ⟨_, rfl, hl, hm, by simpa using hz, hcell, hwz⟩⟩
  clear hA0 hval0
  refine (walk a0 len0 cap0 z0 W w0).mono fun e W' ⟨he, bel⟩ => ?_
  subst he
  exact ⟨_, rfl, _, _, _, [], _, [], hW', trodAll_mk1 (shut_bool Try.underlying4 _), (trodAll_cons_mk (Below.trod laidOut (by kernel_rfl) (of_decide_eq_true (by kernel_rfl)) k0 bel lt0) trodAll_mk0), rfl, bel.frame _, fun h => by cases h⟩

theorem over : Rows.fnSharesRow.holds Try.pinned (OpenSpec.ofChange Rows.fnSharesSpec) :=
  OpenClaim.holds_of_wide 5 Try.f5 rfl rfl rfl rfl rfl rfl rfl ⟨rfl, rfl, rfl, rfl, rfl⟩ rfl rfl rfl rfl rfl (by kernel_rfl) Try.func5 (by kernel_rfl)
    (of_decide_eq_true (by kernel_rfl)) (by unfold Func.isWrapper; first | (rw [if_pos (by decide +kernel)]; kernel_rfl) | (rw [if_neg (by decide +kernel)]; exact ⟨rfl, rfl⟩))
    (fun os started H enc _ => lifted os started H enc)

theorem proved : Rows.FnSharesSaid := over
end Go.Proofs.Ytenaeehefamdmaa.fnShares
