/-
  Contract of the reference's l13Pay.
  Conditions: as the contract says.
-/
import Derived.Test.YtenaeehefamdmaaPayPlain
import Derived.OwnWalk
import Derived.IntWalk
namespace Go.Proofs.Ytenaeehefamdmaa.Pays
open Go.RowKit Mem IsClasses Living Owns Concats
set_option linter.unusedVariables false

theorem own_keep {w w' : World} {B e n : Nat} {v : Value} {xs : List Value} (h : w.ownsRow B e 1 v n xs) (g : Below w.heap.size w w') : w'.ownsRow B e 1 v n xs := by
  obtain ⟨h1, h2⟩ := h
  refine ⟨h1, ?_⟩
  rcases h2 with h2 | ⟨g', cap, cur, hv, hg, hh, r⟩
  · exact .inl h2
  · exact .inr ⟨g', cap, cur, hv, hg, (g.block g' (lt_of_get hh)).trans hh, r⟩

theorem lt_of_cell {w : World} {q o : Nat} {v : Value} (h : w.cell? ⟨q, o, none⟩ = some v) : q < w.heap.size := by
  rcases Nat.lt_or_ge q w.heap.size with g | g
  · exact g
  · simp [World.cell?, Array.getElem?_eq_none g] at h
set_option maxHeartbeats 2000000 in
set_option maxRecDepth 100000 in
theorem l13Pay_any (ch inc : Int) (v1 v2 : Value) (sh de : List Int) (w : World) (h1 : Rd w v1 sh) (h2 : Rd w v2 de) (hn1 : 1 ≤ sh.length) (hn2 : sh.length ≤ 60) (hn3 : de.length ≤ 60) (hw : within 1 1000 sh = true) (c0 : 0 ≤ ch) (c1 : ch ≤ 1000000000000) (i0 : 0 ≤ inc) (i1 : inc ≤ 100000000) :
    Calls Try.prog 26 #[.agg #[v1, v2, .int .i64 ch], .int .i64 inc] w (PayEnd sh de ch inc w) := by
  obtain ⟨iT, hi, hz0, hz1, hz2⟩ := info_parts info64
  have R1 := Lib.hid h1
  have R2 := Lib.hid h2
  have WG := Lib.hid (fun i hi => within_get hw i hi)
  obtain ⟨l0, l1⟩ := lv_bd sh de hw sh.length (Nat.le_refl _)
  have LV := Lib.hid (fun w v1 v2 ch h1 h2 => specLiving_any ch v1 v2 sh de w h1 h2 hn2 hw)
  obtain ⟨a2, c2, rfl, _⟩ := rd_shape h2
  rcases h1 with ⟨rfl, rfl⟩ | ⟨b, off, cap, rfl, hnn, hl, hm, hbl, hx⟩
  · simp at hn1
  have HD := Lib.hid hx
  have HP := Lib.hid (fun ea k => paid_len sh de ea sh.length k)
  clear hx hw h2
  obtain ⟨wA, hA, HBx, HRx, HB0⟩ : ∃ wA : World, Hid (wA = (w.alloc (.cells #[.slice (some ⟨b, off, none⟩) sh.length cap, .slice a2 de.length c2, .int .i64 ch] 26)).alloc (.cells #[.slice none 0 0, .slice none 0 0, .int .i64 0] 26)) ∧ Hid (FBox wA w.heap.size (.slice (some ⟨b, off, none⟩) sh.length cap) (.slice a2 de.length c2) (.int .i64 ch)) ∧ Hid (FBox wA (w.heap.size + 1) (.slice none 0 0) (.slice none 0 0) (.int .i64 0)) ∧ Hid (Below w.heap.size w wA) :=
    ⟨_, rfl, (fbox_new w _ _ _).below (b0 _ _), by have := fbox_new (w.alloc (.cells #[.slice (some ⟨b, off, none⟩) sh.length cap, .slice a2 de.length c2, .int .i64 ch] 26)) (.slice none 0 0) (.slice none 0 0) (.int .i64 0); rw [show (w.alloc (.cells #[.slice (some ⟨b, off, none⟩) sh.length cap, .slice a2 de.length c2, .int .i64 ch] 26)).heap.size = w.heap.size + 1 by simp] at this; exact this, bl (b0 _ _) (b0 _ _)⟩
  have hAz : Hid (wA.heap.size = w.heap.size + 1 + 1) := by show _ = _; rw [hA.out]; simp
  go_enter Try.func26, Try.ntmps26
  go_wp2_with fail
  rw [← hA.out]
  refine (l13Own_any ch _ _ sh de _ (R1.out.below HB0.out) (R2.out.below HB0.out) (by omega) (by omega)).mono ?_
  rintro e w1 ⟨u1, u2, rfl, hs1, hs2, hsep, hb1⟩
  obtain ⟨p1, q1, rfl⟩ := sl_shape hs1
  obtain ⟨p2, q2, rfl⟩ := sl_shape hs2
  have HB1 := Lib.hid hb1
  have HS1 := Lib.hid hs1
  have HS2 := Lib.hid hs2
  have HSP := Lib.hid hsep
  obtain ⟨x0, x1, x2, x3, x4⟩ := (HBx.out.below hb1).parts
  clear hb1 hs1 hs2 hsep
  obtain ⟨wq, hq, HBq, HFq⟩ : ∃ wq : World, Hid (wq = w1.alloc (.cells #[.slice p1 sh.length q1, .slice p2 de.length q2, .int .i64 (ch + inc)] 26)) ∧ Hid (Below w1.heap.size w1 wq) ∧ Hid (FBox wq w1.heap.size (.slice p1 sh.length q1) (.slice p2 de.length q2) (.int .i64 (ch + inc))) :=
    ⟨_, rfl, b0 _ _, fbox_new w1 _ _ _⟩
  have hqz : Hid (wq.heap.size = w1.heap.size + 1) := by show _ = _; rw [hq.out]; simp
  go_wp2_with (at_make; refine wpList_make_full _ rfl _ _ 22 rfl (w1.heap.size + 1) 2 iT (.int .i64 0) 1 Try.underlying22 hi hz0 hz1 .i64 .i64 _ _ sh.length rfl rfl ?m1 ?m2 ?m3 ?m4 ?m5 ?m6)
  case m1 => rfl
  case m2 => rfl
  case m3 => rw [hz2]; omega
  case m4 => unfold maxLen; omega
  case m5 => simp
  rw [← hq.out]
  intro wm hown hgrow
  have hown := zeros_own (by rw [Nat.mul_one]; exact hown)
  rw [← paid_zero sh de 0] at hown
  have HO := Lib.hid hown
  have HBm := Lib.hid (made_below hgrow)
  have HWm := Lib.hid (bl HB0.out (bl HB1.out (bl HBq.out (made_below hgrow))))
  obtain ⟨x0, x1, x2, x3, x4⟩ := (HBx.out.below (bl HB1.out (bl HBq.out (made_below hgrow)))).parts
  clear hown hgrow
  go_wp2_with fail
  refine (LV.out _ _ _ _ (R1.out.below HWm.out) (R2.out.below HWm.out)).mono ?_
  rintro e w2 ⟨rfl, hb2⟩
  have HB2 := Lib.hid (bl HBm.out hb2)
  have HO2 := Lib.hid (own_keep HO.out hb2)
  have HXA := Lib.hid (bl HB1.out (bl HBq.out (bl HBm.out hb2)))
  obtain ⟨x0, x1, x2, x3, x4⟩ := (HBx.out.below HXA.out).parts
  have HF2 := Lib.hid (HFq.out.below HB2.out)
  obtain ⟨f0, f1, f2, f3, f4⟩ := HF2.out.parts
  obtain ⟨r0, r1, r2, r3, r4⟩ := (HRx.out.below HXA.out).parts
  have SU1 : Hid (∀ wz, Below wq.heap.size wq wz → Sl wz wA.heap.size (.slice p1 sh.length q1) sh) := fun wz h => HS1.out.below (bl HBq.out h)
  have SU2 : Hid (∀ wz, Below wq.heap.size wq wz → Sl wz wA.heap.size (.slice p2 de.length q2) de) := fun wz h => HS2.out.below (bl HBq.out h)
  have S13 : Hid (Sep (.slice p1 sh.length q1) (.slice (some ⟨w1.heap.size + 1, 0, none⟩) sh.length sh.length)) := fun k e1 e2 => by
    have := (Marks.sl_own HS1.out k e1).2
    simp [Value.ownBlock] at e2; omega
  have S23 : Hid (Sep (.slice p2 de.length q2) (.slice (some ⟨w1.heap.size + 1, 0, none⟩) sh.length sh.length)) := fun k e1 e2 => by
    have := (Marks.sl_own HS2.out k e1).2
    simp [Value.ownBlock] at e2; omega
  have NB1 : Hid (∀ k, (Value.slice p1 sh.length q1).ownBlock = some k → k < w1.heap.size) := fun k e => (Marks.sl_own HS1.out k e).2
  have NB2 : Hid (∀ k, (Value.slice p2 de.length q2).ownBlock = some k → k < w1.heap.size) := fun k e => (Marks.sl_own HS2.out k e).2
  have hw1 : w.heap.size + 1 + 1 ≤ w1.heap.size := by have := HB1.out.size; have := hAz.out; omega
  clear hb2 HO HBm HWm HS1 HS2 LV
  by_cases hL : 0 < lv sh de sh.length
  · have hlv2 : lv sh de sh.length ≤ 60000 := by omega
    have PI : Hid (∀ (D P : List Int) (C : Int), D = de → P = paidL sh de ((ch + inc) / lv sh de sh.length) sh.length sh.length → C = (ch + inc) % lv sh de sh.length → PayIs sh de ch inc sh D P C 0) := fun D P C h1 h2 h3 => .inl ⟨hL, rfl, h1, h2, h3, rfl⟩
    have e0 : 0 ≤ (ch + inc) / lv sh de sh.length := Int.ediv_nonneg (by omega) (by omega)
    have e1 : (ch + inc) / lv sh de sh.length ≤ 1000100000000 := Int.le_trans (Int.ediv_le_self _ (by omega)) (by omega)
    have m0 : 0 ≤ (ch + inc) % lv sh de sh.length := Int.emod_nonneg _ (by omega)
    have m1 : (ch + inc) % lv sh de sh.length < lv sh de sh.length := Int.emod_lt_of_pos _ hL
    have Q1 : IntKind.i64.wrap ((ch + inc) / lv sh de sh.length) = (ch + inc) / lv sh de sh.length := IntWalk.i64_in _ (by omega)
    have HO3 : Hid (w2.ownsRow (w1.heap.size + 1) 2 1 (.slice (some ⟨w1.heap.size + 1, 0, none⟩) sh.length sh.length) sh.length ((paidL sh de ((ch + inc) / lv sh de sh.length) sh.length 0).map (Value.int .i64))) := by
      have := HO2.out
      rw [paid_zero] at this ⊢
      exact this
    clear l0 l1 HO2 r0 r1 r2 r3 r4
    generalize lv sh de sh.length = L at *
    go_wp2_with fail
    go_loopw [11] (fun i wr => ∃ k : Nat, k ≤ sh.length ∧ i = .int .i64 k ∧ Hid (Below wq.heap.size wq wr) ∧ Hid (wr.ownsRow (w1.heap.size + 1) 2 1 (.slice (some ⟨w1.heap.size + 1, 0, none⟩) sh.length sh.length) sh.length ((paidL sh de ((ch + inc) / L) sh.length k).map (Value.int .i64)))) (fun i _ => sh.length - (intOf i).toNat)
    case atStart => exact ⟨0, by omega, rfl, HB2.out, HO3.out⟩
    case round =>
      clear x0 x1 x2 x3 x4 f0 f1 f2 f3 f4
      obtain ⟨k, hk, rfl, HBk, HOk⟩ := hrel
      have HXk := Lib.hid (bl HB1.out (bl HBq.out HBk.out))
      obtain ⟨x0, x1, x2, x3, x4⟩ := (HBx.out.below HXk.out).parts
      by_cases hlt : k < sh.length
      · have hki : (k : Int) < (sh.length : Int) := by omega
        have hg := WG.out k hlt
        have HCK : Hid (∀ w', Below w.heap.size w w' → w'.cell? ⟨b, off + k, none⟩ = some (.int .i64 (sh.getD k 0))) := fun w' h => rd_cell (cap := cap) hbl h HD.out k hlt
        have HPV : Hid (has de (k : Int) = false → pv sh de ((ch + inc) / L) k = ((ch + inc) / L) * sh.getD k 0) := fun h => by unfold pv; rw [h]; rfl
        have ZC := Lib.hid (paid_at sh de ((ch + inc) / L) sh.length k hlt)
        have PS := Lib.hid (paid_step sh de ((ch + inc) / L) sh.length k hlt)
        have PK := Lib.hid (paid_skip sh de ((ch + inc) / L) sh.length k)
        generalize sh.getD k 0 = x at *
        cases hh : has de (k : Int) with
        | true =>
          have HH := Lib.hid hh
          clear hh
          go_wp2_with fail
          refine (IsClasses.l01Has_any _ de _ _ (R2.out.below (bl HB0.out HXk.out))).mono ?_; rintro e w3 ⟨rfl, q, rfl⟩; rw [HH.out]
          have hb3 := bd wr q
          have HBk2 := Lib.hid (bl HBk.out hb3)
          have HOk2 := Lib.hid (own_keep HOk.out hb3)
          clear hb3
          go_wp2
          go_roundw
          case rel => exact ⟨k + 1, by omega, by go_num, HBk2.out, by show World.ownsRow _ _ _ _ _ _ _; rw [← PK.out HH.out]; exact HOk2.out⟩
          case measure => simp [intOf]; omega
        | false =>
          have HH := Lib.hid hh
          have HPV2 := Lib.hid (HPV.out hh)
          clear hh HPV
          have b1 : 0 ≤ ((ch + inc) / L) * x ∧ ((ch + inc) / L) * x ≤ 1000100000000000 := ⟨Int.mul_nonneg e0 (by omega), by have := Int.mul_le_mul e1 hg.2 (by omega) (by omega); omega⟩
          obtain ⟨b1, b2⟩ := b1
          have W1 : IntKind.i64.wrap (((ch + inc) / L) * x) = ((ch + inc) / L) * x := IntWalk.i64_in _ (by omega)
          go_wp2_with fail
          refine (IsClasses.l01Has_any _ de _ _ (R2.out.below (bl HB0.out HXk.out))).mono ?_; rintro e w3 ⟨rfl, q, rfl⟩; rw [HH.out]
          have hb3 := bd wr q
          have HBk2 := Lib.hid (bl HBk.out hb3)
          have HOk2 := Lib.hid (own_keep HOk.out hb3)
          clear hb3 x0 x1 x2 x3 x4
          have HXk2 := Lib.hid (bl HB1.out (bl HBq.out HBk2.out))
          obtain ⟨x0, x1, x2, x3, x4⟩ := (HBx.out.below HXk2.out).parts
          generalize wr.drewN q = w3 at *
          have hck := HCK.out _ (bl HB0.out HXk2.out)
          have hcz : w3.cell? ⟨w1.heap.size + 1, k, none⟩ = some (.int .i64 0) := by rw [HOk2.out.cellAt k (by omega)]; exact ZC.out
          have hfz := HOk2.out.frozenAt k
          have hwp := lt_of_cell hcz
          obtain ⟨s1, s2⟩ := HOk2.out.stored k (.int .i64 (((ch + inc) / L) * x))
          have HS1 := Lib.hid s1
          have HBk3 := Lib.hid (HBk2.out.setCell (p := ⟨w1.heap.size + 1, k, none⟩) (by have := hqz.out; simp; omega) (.int .i64 (((ch + inc) / L) * x)))
          clear s1 s2
          go_wp2
          go_roundw
          case rel => exact ⟨k + 1, by omega, by go_num, HBk3.out, by show World.ownsRow _ _ _ _ _ _ _; rw [← PS.out, HPV2.out, List.map_set]; exact HS1.out⟩
          case measure => simp [intOf]; omega
      · obtain rfl : k = sh.length := by omega
        have hki : ¬ ((sh.length : Int) < (sh.length : Int)) := by omega
        obtain ⟨f0, f1, f2, f3, f4⟩ := (HFq.out.below HBk.out).parts
        obtain ⟨r0, r1, r2, r3, r4⟩ := (HRx.out.below HXk.out).parts
        have HPS := Lib.hid (sl_of_own HOk.out (by rw [paid_len]; omega))
        go_wp2_with fail
        refine bodyPost_ret (v := .tuple #[.agg #[.slice p1 sh.length q1, .slice p2 de.length q2, .int .i64 ((ch + inc) % L)], .slice (some ⟨w1.heap.size + 1, 0, none⟩) sh.length sh.length, .int .i64 0]) (by simp [results, Try.results26, go_sem, r0, r1, r2]) rfl ?_
        refine ⟨sh, de, _, _, 0, _, _, _, PI.out de _ _ rfl rfl rfl, rfl, ⟨?_, ?_, ?_, HSP.out, S13.out, S23.out⟩, ?_⟩
        · refine sl_mono (B := wA.heap.size) (by have := hAz.out; omega) ?_
          repeat (refine sl_setCell ?_ (by have := hAz.out; simp; omega) _)
          exact Marks.sl_grown (SU1.out _ HBk.out) (Marks.gset _ _ _ _) (fun k e1 e2 => by have := NB1.out k e2; injection e1; omega)
        · refine sl_mono (B := wA.heap.size) (by have := hAz.out; omega) ?_
          repeat (refine sl_setCell ?_ (by have := hAz.out; simp; omega) _)
          exact Marks.sl_grown (SU2.out _ HBk.out) (Marks.gset _ _ _ _) (fun k e1 e2 => by have := NB2.out k e2; injection e1; omega)
        · refine sl_mono (B := w1.heap.size + 1) (by omega) ?_
          repeat (refine sl_setCell ?_ (by simp <;> omega) _)
          exact HPS.out
        · repeat (refine Below.setCell ?_ (by simp <;> omega) _)
          exact bl HB0.out HXk.out
  · have hL0 : Hid (lv sh de sh.length = 0) := Lib.hid (by omega)
    have hLz : lv sh de sh.length ≤ 0 := by omega
    have HPS := Lib.hid (sl_of_own HO2.out (by rw [paid_len]; omega))
    by_cases hcap : 1000000000000 < ch + inc
    · clear hL
      go_wp2_with fail
      refine bodyPost_ret (v := .tuple #[.agg #[.slice none 0 0, .slice none 0 0, .int .i64 0], .slice none 0 0, .int .i64 3]) (by simp [results, Try.results26, go_sem, r0, r1, r2]) rfl ?_
      refine ⟨[], [], [], 0, 3, _, _, _, .inr (.inr ⟨hL0.out, hcap, rfl, rfl, rfl, rfl, rfl⟩), rfl, ⟨.inl ⟨rfl, rfl⟩, .inl ⟨rfl, rfl⟩, .inl ⟨rfl, rfl⟩, (fun k e => by cases e), (fun k e => by cases e), (fun k e => by cases e)⟩, ?_⟩
      repeat (refine Below.setCell ?_ (by simp <;> omega) _)
      exact bl HB0.out HXA.out
    · have hcap2 : ch + inc ≤ 1000000000000 := by omega
      clear hL hcap
      go_wp2_with fail
      refine bodyPost_ret (v := .tuple #[.agg #[.slice p1 sh.length q1, .slice p2 de.length q2, .int .i64 (ch + inc)], .slice (some ⟨w1.heap.size + 1, 0, none⟩) sh.length sh.length, .int .i64 0]) (by simp [results, Try.results26, go_sem, r0, r1, r2]) rfl ?_
      refine ⟨sh, de, _, _, 0, _, _, _, .inr (.inl ⟨hL0.out, hcap2, rfl, rfl, rfl, rfl, rfl⟩), rfl, ⟨?_, ?_, ?_, HSP.out, S13.out, S23.out⟩, ?_⟩
      · refine sl_mono (B := wA.heap.size) (by have := hAz.out; omega) ?_
        repeat (refine sl_setCell ?_ (by have := hAz.out; simp; omega) _)
        exact SU1.out _ HB2.out
      · refine sl_mono (B := wA.heap.size) (by have := hAz.out; omega) ?_
        repeat (refine sl_setCell ?_ (by have := hAz.out; simp; omega) _)
        exact SU2.out _ HB2.out
      · refine sl_mono (B := w1.heap.size + 1) (by omega) ?_
        repeat (refine sl_setCell ?_ (by simp; omega) _)
        exact HPS.out
      · repeat (refine Below.setCell ?_ (by simp <;> omega) _)
        exact bl HB0.out HXA.out
end Go.Proofs.Ytenaeehefamdmaa.Pays
