/-
  Proved: the law FnSickWeeks returns true, for every input.
  Conditions: none: the given statement Rows.FnSickWeeksSaid, as it stands.
-/
import Derived.Test.YtochnbljjlloiaaRows
import Derived.WalkKit
import Derived.ProofKit
import Derived.OpenShut
import Derived.ShutString
import Derived.ChangeOld
import Derived.Below
import Derived.IntWalk
import Derived.Test.YtochnbljjlloiaaSickLaw
import Derived.Test.YtochnbljjlloiaaDraws6
import Derived.Deep.RegionHeld3
namespace Go.Proofs.Ytochnbljjlloiaa.fnSickWeeks
open Go.ChangeShapes Go.WideShapes Go.ChangeAt Go.RowKit
open Go.ChangeMaps (open_string shut_string)
set_option linter.unusedVariables false

theorem own : ownKnob Try.prog.godebug = none := by kernel_rfl
theorem laidOut : laidOutB Try.prog = true := by kernel_rfl

open Mem

set_option maxHeartbeats 1000000 in
set_option maxRecDepth 100000 in
theorem walk (a0 : Option Addr) (len0 cap0 : Nat) (z0 : List Int) (w : World) (w0 : IsRow .u8 w a0 len0 cap0 z0) :
    Calls Try.prog 14 #[.slice a0 len0 cap0] w fun e w' => e = .returned (.bool true) ∧ Below w.heap.size w w' := by
  have hlen : len0 ≤ 9223372036854775807 := by
    rcases w0 with ⟨_, rfl, _⟩ | ⟨_, _, h1, h2, _⟩
    · omega
    · unfold maxLen at h2; omega
  by_cases hbig : 4096 < len0
  · clear w0
    go_enter Try.func14, Try.ntmps14
    go_wp2
    go_ret
    exact ⟨rfl, Below.refl _ _⟩
  go_enter Try.func14, Try.ntmps14
  go_wp2_with (go_at_call 54; go_in)
  refine (Draws.drawSickWeeks _ _ _ _ _ w0 (by omega)).mono ?_; rintro e w1 ⟨f, v, xs, u, ys, rfl, f0, hv, hl1, ha1, hu, hl2, ha2, hB⟩
  have HB1 := Lib.hid hB
  have W1 := Lib.hid (Draws.row_below w0 hB)
  have RV := Lib.hid hv
  have RU := Lib.hid hu
  obtain ⟨va, vc, rfl, _⟩ := rd_shape hv
  obtain ⟨ua, uc, rfl, _⟩ := rd_shape hu
  clear w0 hB f0 hv ha1 hu ha2
  go_wp2_with fail
  have HX1 := Lib.hid (box2_new w1 (.int .i64 f) (.slice va xs.length vc) 40)
  have hbA := b0 w1 (.cells #[.int .i64 f, .slice va xs.length vc] 40)
  have HBA := Lib.hid (bl HB1.out hbA)
  have RVA := Lib.hid (RV.out.below hbA)
  have RUA := Lib.hid (RU.out.below hbA)
  have WA := Lib.hid (Draws.row_below W1.out hbA)
  generalize w1.alloc (.cells #[.int .i64 f, .slice va xs.length vc] 40) = wA at *
  clear hbA
  have A1 := Lib.hid (fun w h g => SickSums.implSickWeeks_any f (.slice va xs.length vc) (.slice ua ys.length uc) xs ys w h g)
  have A2 := Lib.hid (fun w h g => SickSums.specSickWeeks_any f (.slice va xs.length vc) (.slice ua ys.length uc) xs ys w h g)
  have ADD := Lib.hid (SickLaw.adds f xs ys)
  generalize SickSums.swV f xs ys = n at *
  generalize SickSums.swC f xs ys = nc at *
  refine (A1.out _ RVA.out RUA.out).mono ?_; rintro e w2 ⟨rfl, hb⟩
  have HX2 := Lib.hid (HX1.out.below hb)
  have HB2 := Lib.hid (bl HBA.out hb)
  have RV2 := Lib.hid (RVA.out.below hb)
  have RU2 := Lib.hid (RUA.out.below hb)
  have W2 := Lib.hid (Draws.row_below WA.out hb)
  clear hb
  obtain ⟨x1, x2, x3⟩ := HX2.out
  go_wp2_with fail
  refine (A2.out _ RV2.out RU2.out).mono ?_; rintro e w3 ⟨rfl, hb⟩
  have HX3 := Lib.hid (HX2.out.below hb)
  have HB3 := Lib.hid (bl HB2.out hb)
  have RV3 := Lib.hid (RV2.out.below hb)
  have RU3 := Lib.hid (RU2.out.below hb)
  have W3 := Lib.hid (Draws.row_below W2.out hb)
  clear hb x1 x2 x3
  go_wp2_with fail
  refine (Draws.drawWeeksAt _ _ _ _ _ W3.out (by omega)).mono ?_; rintro e w4 ⟨g, tv, ts, age, rfl, g0, ht, hl3, ha3, hage, hb⟩
  have HX4 := Lib.hid (HX3.out.below hb)
  have HB4 := Lib.hid (bl HB3.out hb)
  have RV4 := Lib.hid (RV3.out.below hb)
  have RU4 := Lib.hid (RU3.out.below hb)
  have RT := Lib.hid ht
  obtain ⟨ta, tc, rfl, _⟩ := rd_shape ht
  unfold Draws.I64 at hage
  obtain ⟨ag1, ag2⟩ := hage
  clear hb g0 ht ha3
  go_wp2_with fail
  have HY1 := Lib.hid (box2_new w4 (.int .i64 g) (.slice ta ts.length tc) 40)
  have hbA := b0 w4 (.cells #[.int .i64 g, .slice ta ts.length tc] 40)
  have HX5 := Lib.hid (HX4.out.below hbA)
  have HB5 := Lib.hid (bl HB4.out hbA)
  have RV5 := Lib.hid (RV4.out.below hbA)
  have RU5 := Lib.hid (RU4.out.below hbA)
  have RT5 := Lib.hid (RT.out.below hbA)
  generalize w4.alloc (.cells #[.int .i64 g, .slice ta ts.length tc] 40) = w5 at *
  clear hbA
  have C1 := Lib.hid (fun w h => SickTables.implWeeksAt_any g (.slice ta ts.length tc) ts age w h ag1 ag2)
  have C2 := Lib.hid (fun w h => SickTables.specWeeksAt_any g (.slice ta ts.length tc) ts age w h ag1 ag2)
  have C3 := Lib.hid (fun w h => SickTables.implWorstAge_any g (.slice ta ts.length tc) ts w h)
  have C4 := Lib.hid (fun w h => SickTables.specWorstAge_any g (.slice ta ts.length tc) ts w h)
  have C5 := Lib.hid (fun w h b1 b2 => SickTables.implWeeksAt_any g (.slice ta ts.length tc) ts (SickTables.woV g ts) w h b1 b2)
  have WOR := Lib.hid (SickLaw.worst g ts age hl3)
  generalize SickTables.woV g ts = ov at *
  generalize SickTables.woC g ts = oc at *
  generalize SickTables.waV g ts age = wv at *
  generalize SickTables.waC g ts age = wc at *
  generalize SickTables.waV g ts ov = mv at *
  generalize SickTables.waC g ts ov = mc at *
  refine (C1.out _ RT5.out).mono ?_; rintro e w6 ⟨rfl, hb⟩
  have HX6 := Lib.hid (HX5.out.below hb)
  have HY6 := Lib.hid (HY1.out.below hb)
  have HB6 := Lib.hid (bl HB5.out hb)
  have RV6 := Lib.hid (RV5.out.below hb)
  have RU6 := Lib.hid (RU5.out.below hb)
  have RT6 := Lib.hid (RT5.out.below hb)
  clear hb
  obtain ⟨y1, y2, y3⟩ := HY6.out
  go_wp2_with fail
  refine (C2.out _ RT6.out).mono ?_; rintro e w7 ⟨rfl, hb⟩
  have HX7 := Lib.hid (HX6.out.below hb)
  have HY7 := Lib.hid (HY6.out.below hb)
  have HB7 := Lib.hid (bl HB6.out hb)
  have RV7 := Lib.hid (RV6.out.below hb)
  have RU7 := Lib.hid (RU6.out.below hb)
  have RT7 := Lib.hid (RT6.out.below hb)
  clear hb y1 y2 y3
  obtain ⟨y1, y2, y3⟩ := HY7.out
  go_wp2_with fail
  refine (C3.out _ RT7.out).mono ?_; rintro e w8 ⟨rfl, hb⟩
  have HX8 := Lib.hid (HX7.out.below hb)
  have HY8 := Lib.hid (HY7.out.below hb)
  have HB8 := Lib.hid (bl HB7.out hb)
  have RV8 := Lib.hid (RV7.out.below hb)
  have RU8 := Lib.hid (RU7.out.below hb)
  have RT8 := Lib.hid (RT7.out.below hb)
  clear hb y1 y2 y3
  obtain ⟨y1, y2, y3⟩ := HY8.out
  go_wp2_with fail
  refine (C4.out _ RT8.out).mono ?_; rintro e w9 ⟨rfl, hb⟩
  have HX9 := Lib.hid (HX8.out.below hb)
  have HY9 := Lib.hid (HY8.out.below hb)
  have HB9 := Lib.hid (bl HB8.out hb)
  have RV9 := Lib.hid (RV8.out.below hb)
  have RU9 := Lib.hid (RU8.out.below hb)
  have RT9 := Lib.hid (RT8.out.below hb)
  clear hb y1 y2 y3
  obtain ⟨y1, y2, y3⟩ := HY9.out
  obtain ⟨x1, x2, x3⟩ := HX9.out
  by_cases hw : wc = 0
  · subst hw
    obtain ⟨o1, o2, o3, o4⟩ := WOR.out rfl
    subst o1
    go_wp2_with fail
    refine (C5.out _ RT9.out o3 o4).mono ?_; rintro e w10 ⟨rfl, hb⟩
    have HX := Lib.hid (HX9.out.below hb)
    have HB := Lib.hid (bl HB9.out hb)
    have RV := Lib.hid (RV9.out.below hb)
    have RU := Lib.hid (RU9.out.below hb)
    clear hb y1 y2 y3 x1 x2 x3
    obtain ⟨x1, x2, x3⟩ := HX.out
    by_cases hn : nc = 0
    · subst hn
      obtain ⟨d1, d2, d3, d4, d5, d6⟩ := ADD.out rfl
      have D1 := Lib.hid d1
      have D2 := Lib.hid d2
      clear d1 d2
      by_cases h0 : ys = []
      · subst h0
        have e0 : SickSums.sw f xs [] ([] : List Int).length = 0 := rfl
        rw [e0] at d3 d4
        clear e0
        go_wp2
        refine wp_loop_rounds 1 ?_; rw [rounds_succ]
        go_wp2
        go_ret
        exact ⟨by first | rfl | exact Base.ret_bool (decide_eq_true (by omega)), HB.out⟩
      · have hpos : 0 < ys.length := List.length_pos_iff.2 h0
        clear h0
        obtain ⟨b, off, hua, hbl, hx⟩ : ∃ b off, ua = some ⟨b, off, none⟩ ∧ b < w10.heap.size ∧ ∀ i, i < ys.length → w10.cell? ⟨b, off + i, none⟩ = some (.int .i64 (ys.getD i 0)) := by
          rcases RU.out with ⟨hv, hz⟩ | ⟨b, off, cap, hv, _, _, _, hbl, hx⟩
          · rw [hz] at hpos; simp at hpos
          · injection hv with h1 h2 h3
            exact ⟨b, off, h1, hbl, hx⟩
        subst hua
        have HD := Lib.hid hx
        clear hx
        have D3 := Lib.hid d3
        have D4 := Lib.hid d4
        clear d3 d4
        go_wp2
        go_loopw [21, 22] (fun s i wr => ∃ k : Nat, k ≤ ys.length ∧ i = .int .i64 k ∧ s = .int .i64 (SickSums.sw f xs ys k) ∧ Hid (Below w10.heap.size w10 wr) ∧ Hid (Box2 wr w1.heap.size (.int .i64 f) (.slice va xs.length vc))) (fun _ i _ => ys.length - (intOf i).toNat)
        case atStart => exact ⟨0, by omega, rfl, rfl, Below.refl _ _, HX.out⟩
        case round =>
          obtain ⟨k, hk, rfl, rfl, HBk, HXk⟩ := hrel
          obtain ⟨z1, z2, z3⟩ := HXk.out
          have hlb := D2.out k hk
          by_cases hlt : k < ys.length
          · have HCK := Lib.hid (fun (w' : World) (h : Below w10.heap.size w10 w') => SickSums.rd_cell (cap := uc) hbl h HD.out k hlt)
            have hck := HCK.out _ HBk.out
            obtain ⟨e1, e2, e3, e4⟩ := D1.out k hlt
            have hlb2 := D2.out (k + 1) (by omega)
            have E2 := Lib.hid e2
            rw [e2] at hlb2
            clear e2
            have HCW := Lib.hid (fun w h => SickTables.implWeeksAt_any f (.slice va xs.length vc) xs (ys.getD k 0) w h (by omega) (by omega))
            rw [e1] at HCW
            clear e1
            have hki : (k : Int) < (ys.length : Int) := by omega
            generalize SickTables.waV f xs (ys.getD k 0) = wk at *
            generalize ys.getD k 0 = yk at *
            go_wp2
            go_region_held3 (fun w' => w'.cell? ⟨w1.heap.size, 0, none⟩ = some (.int .i64 f) ∧ w'.cell? ⟨w1.heap.size, 1, none⟩ = some (.slice va xs.length vc) ∧ w'.cell? ⟨b, off + k, none⟩ = some (.int .i64 yk)) (go_keep)
              (first | (go_at_call 40; refine (HCW.out _ (RV.out.below HBk.out.drew)).mono ?_; rintro e w5 ⟨rfl, hb5d⟩; have hb5 := undrew hb5d; obtain ⟨q1, q2, q3⟩ := HXk.out.below hb5; have HB5 := Lib.hid (bl HBk.out hb5); have HX5 := Lib.hid (HXk.out.below hb5); have hck5 := HCK.out _ HB5.out))
            go_wp2
            go_roundw
            case rel => exact ⟨k + 1, by omega, by go_num, by first | (rw [E2.out]; done) | (rw [E2.out, show IntKind.i64.wrap (SickSums.sw f xs ys k + wk) = SickSums.sw f xs ys k + wk from IntWalk.i64_in _ (by omega)]), HB5.out, HX5.out⟩
            case measure => simp [intOf]; omega
          · obtain rfl : k = ys.length := by omega
            have d3 := D3.out
            have d4 := D4.out
            go_wp2
            go_ret
            exact ⟨by first | rfl | exact Base.ret_bool (decide_eq_true (by omega)), bl HB.out HBk.out⟩
    · go_wp2
      go_ret
      exact ⟨rfl, HB.out⟩
  · have hw' : (wc == 0) = false := by simpa using hw
    have HX := Lib.hid HX9.out
    have HB := Lib.hid HB9.out
    have RV := Lib.hid RV9.out
    have RU := Lib.hid RU9.out
    by_cases hn : nc = 0
    · subst hn
      obtain ⟨d1, d2, d3, d4, d5, d6⟩ := ADD.out rfl
      have D1 := Lib.hid d1
      have D2 := Lib.hid d2
      clear d1 d2
      by_cases h0 : ys = []
      · subst h0
        have e0 : SickSums.sw f xs [] ([] : List Int).length = 0 := rfl
        rw [e0] at d3 d4
        clear e0
        go_wp2
        refine wp_loop_rounds 1 ?_; rw [rounds_succ]
        go_wp2
        go_ret
        exact ⟨by first | rfl | exact Base.ret_bool (decide_eq_true (by omega)), HB.out⟩
      · have hpos : 0 < ys.length := List.length_pos_iff.2 h0
        clear h0
        obtain ⟨b, off, hua, hbl, hx⟩ : ∃ b off, ua = some ⟨b, off, none⟩ ∧ b < w9.heap.size ∧ ∀ i, i < ys.length → w9.cell? ⟨b, off + i, none⟩ = some (.int .i64 (ys.getD i 0)) := by
          rcases RU.out with ⟨hv, hz⟩ | ⟨b, off, cap, hv, _, _, _, hbl, hx⟩
          · rw [hz] at hpos; simp at hpos
          · injection hv with h1 h2 h3
            exact ⟨b, off, h1, hbl, hx⟩
        subst hua
        have HD := Lib.hid hx
        clear hx
        have D3 := Lib.hid d3
        have D4 := Lib.hid d4
        clear d3 d4
        go_wp2
        go_loopw [21, 22] (fun s i wr => ∃ k : Nat, k ≤ ys.length ∧ i = .int .i64 k ∧ s = .int .i64 (SickSums.sw f xs ys k) ∧ Hid (Below w9.heap.size w9 wr) ∧ Hid (Box2 wr w1.heap.size (.int .i64 f) (.slice va xs.length vc))) (fun _ i _ => ys.length - (intOf i).toNat)
        case atStart => exact ⟨0, by omega, rfl, rfl, Below.refl _ _, HX.out⟩
        case round =>
          obtain ⟨k, hk, rfl, rfl, HBk, HXk⟩ := hrel
          obtain ⟨z1, z2, z3⟩ := HXk.out
          have hlb := D2.out k hk
          by_cases hlt : k < ys.length
          · have HCK := Lib.hid (fun (w' : World) (h : Below w9.heap.size w9 w') => SickSums.rd_cell (cap := uc) hbl h HD.out k hlt)
            have hck := HCK.out _ HBk.out
            obtain ⟨e1, e2, e3, e4⟩ := D1.out k hlt
            have hlb2 := D2.out (k + 1) (by omega)
            have E2 := Lib.hid e2
            rw [e2] at hlb2
            clear e2
            have HCW := Lib.hid (fun w h => SickTables.implWeeksAt_any f (.slice va xs.length vc) xs (ys.getD k 0) w h (by omega) (by omega))
            rw [e1] at HCW
            clear e1
            have hki : (k : Int) < (ys.length : Int) := by omega
            generalize SickTables.waV f xs (ys.getD k 0) = wk at *
            generalize ys.getD k 0 = yk at *
            go_wp2
            go_region_held3 (fun w' => w'.cell? ⟨w1.heap.size, 0, none⟩ = some (.int .i64 f) ∧ w'.cell? ⟨w1.heap.size, 1, none⟩ = some (.slice va xs.length vc) ∧ w'.cell? ⟨b, off + k, none⟩ = some (.int .i64 yk)) (go_keep)
              (first | (go_at_call 40; refine (HCW.out _ (RV.out.below HBk.out.drew)).mono ?_; rintro e w5 ⟨rfl, hb5d⟩; have hb5 := undrew hb5d; obtain ⟨q1, q2, q3⟩ := HXk.out.below hb5; have HB5 := Lib.hid (bl HBk.out hb5); have HX5 := Lib.hid (HXk.out.below hb5); have hck5 := HCK.out _ HB5.out))
            go_wp2
            go_roundw
            case rel => exact ⟨k + 1, by omega, by go_num, by first | (rw [E2.out]; done) | (rw [E2.out, show IntKind.i64.wrap (SickSums.sw f xs ys k + wk) = SickSums.sw f xs ys k + wk from IntWalk.i64_in _ (by omega)]), HB5.out, HX5.out⟩
            case measure => simp [intOf]; omega
          · obtain rfl : k = ys.length := by omega
            have d3 := D3.out
            have d4 := D4.out
            go_wp2
            go_ret
            exact ⟨by first | rfl | exact Base.ret_bool (decide_eq_true (by omega)), bl HB.out HBk.out⟩
    · go_wp2
      go_ret
      exact ⟨rfl, HB.out⟩

set_option maxRecDepth 100000 in
theorem lifted (os : Os) (started : os.Started) (H : Type) (enc : TypeId × Value → H) :
    ReturnsInHanded {} Try.checked os 14 .any (Rows.fnSickWeeksSpec.pre6 enc Try.prog Try.f14 Rows.fnSickWeeksRow.domain false) (Rows.fnSickWeeksSpec.post enc Try.prog Try.f14 false true false false) := by
  refine returnsInHanded_of_change (C := Try.checked) own started (by kernel_rfl) Try.func14
    (ChangeSpec.witness6 (enc := enc) (C := Try.checked) false ⟨#[], #[.slice none 0 0], []⟩ 8 (by kernel_rfl) (by kernel_rfl) (by kernel_rfl) (by kernel_rfl)) ?_
  intro W base args ds gs before hval0 hW hcnd _
  have hval : ∀ (j : Nat) t v, Try.f14.params[j]? = some t → args[j]? = some v → Value.okWide Try.prog W .any base t v := hval0
  have hW' := hW
  obtain ⟨p, q, hA0, hV, rfl, hfz, hnd⟩ := hW
  have hA : DataW.TrodAll enc Try.prog W 0 (fun _ => true) true Try.f14.params.toList args.toList ds p := hA0
  rw [Try.params14] at hA hval
  obtain ⟨v0, vs0, d0, ds0, p0, q0, hargs, rfl, rfl, h0, r0⟩ := trodAll_cons hA
  obtain ⟨rfl, rfl, rfl⟩ := trodAll_nil r0
  obtain rfl : args = #[v0] := by cases args; simp_all
  obtain ⟨rfl, rfl⟩ := trodVars_none hV
  obtain ⟨a0, len0, cap0, rfl⟩ := okWide_slice Try.underlying72 (hval 0 72 v0 rfl rfl)
  have k0 := h0
  have lt0 : ∀ x ∈ p0, x.block < W.heap.size := by obtain ⟨m, hm⟩ := k0; exact DataW.trod_lt m _ _ _ hm
  obtain ⟨z0, w0⟩ : ∃ zs, IsRow .u8 W a0 len0 cap0 zs := by
    obtain ⟨fuel, hf⟩ := h0
    rcases open_ints Try.underlying72 Try.underlying5 (by kernel_rfl) hf with ⟨hcs, _⟩ | ⟨x, l, c, zs, hcs, _, hl, hm, hz, _, hcell, hwz⟩
    · simp [Value.cells] at hcs
      obtain ⟨rfl, rfl, rfl⟩ := hcs
      exact ⟨[], .inl ⟨rfl, rfl, rfl, rfl⟩⟩
    · simp [Value.cells] at hcs
      obtain ⟨rfl, rfl, rfl⟩ := hcs
      exact ⟨zs, .inr ⟨_, rfl, hl, hm, by simpa using hz, hcell, hwz⟩⟩
  clear hA0 hval0
  refine (walk a0 len0 cap0 z0 W w0).mono fun e W' ⟨he, bel⟩ => ?_
  subst he
  exact ⟨_, rfl, _, _, _, [], _, [], hW', trodAll_mk1 (shut_bool Try.underlying4 _), (trodAll_cons_mk (Below.trod laidOut (by kernel_rfl) (of_decide_eq_true (by kernel_rfl)) k0 bel lt0) trodAll_mk0), rfl, bel.frame _, fun h => by cases h⟩

theorem over : Rows.fnSickWeeksRow.holds Try.pinned (OpenSpec.ofChange Rows.fnSickWeeksSpec) :=
  OpenClaim.holds_of_wide 14 Try.f14 rfl rfl rfl rfl rfl rfl rfl ⟨rfl, rfl, rfl, rfl, rfl⟩ rfl rfl rfl rfl rfl (by kernel_rfl) Try.func14 (by kernel_rfl)
    (of_decide_eq_true (by kernel_rfl)) (by unfold Func.isWrapper; first | (rw [if_pos (by decide +kernel)]; kernel_rfl) | (rw [if_neg (by decide +kernel)]; exact ⟨rfl, rfl⟩))
    (fun os started H enc _ => lifted os started H enc)

theorem proved : Rows.FnSickWeeksSaid := over
end Go.Proofs.Ytochnbljjlloiaa.fnSickWeeks
