/-
  Contract of the program's pay.
  Conditions: as the contract says.
-/
import Derived.Test.YtenaeehefamdmaaPayMade
import Derived.Handy
import Derived.RegionTactic
import Derived.Deep.DeepCutAuto
namespace Go.Proofs.Ytenaeehefamdmaa.Pays
open Go.RowKit Mem IsClasses Living Owns Concats
set_option linter.unusedVariables false

theorem lt_own {w : World} {B E n g c : Nat} {xs : List Value} (h : w.ownsRow B E 1 (.slice (some ⟨g, 0, none⟩) n c) n xs) : g < w.heap.size := (h.lt g rfl).2
set_option maxHeartbeats 2000000 in
set_option maxRecDepth 100000 in
theorem pay_any (ch inc : Int) (v1 v2 : Value) (sh de : List Int) (w : World) (h1 : Rd w v1 sh) (h2 : Rd w v2 de) (hn1 : 1 ≤ sh.length) (hn2 : sh.length ≤ 60) (hn3 : de.length ≤ 60) (hw : within 1 1000 sh = true) (c0 : 0 ≤ ch) (c1 : ch ≤ 1000000000000) (i0 : 0 ≤ inc) (i1 : inc ≤ 100000000) :
    Calls Try.prog 29 #[.agg #[v1, v2, .int .i64 ch], .int .i64 inc] w (PayRaw sh de ch inc w) := by
  obtain ⟨iT, hi, hz0, hz1, hz2⟩ := info_parts info64
  have R1 := Lib.hid h1
  have R2 := Lib.hid h2
  have WG := Lib.hid (fun i hi => within_get hw i hi)
  obtain ⟨l0, l1⟩ := lv_bd sh de hw sh.length (Nat.le_refl _)
  have LV := Lib.hid (fun w v1 v2 ch h1 h2 => implLiving_any ch v1 v2 sh de w h1 h2 hn2 hw)
  obtain ⟨a2, c2, rfl, _⟩ := rd_shape h2
  rcases h1 with ⟨rfl, rfl⟩ | ⟨b, off, cap, rfl, hnn, hl, hm, hbl, hx⟩
  · simp at hn1
  have HD := Lib.hid hx
  have HP := Lib.hid (fun ea k => paid_len sh de ea sh.length k)
  clear hx hw h2
  have CL := Lib.hid (fun w h1 h2 => clone_any ch (.slice (some ⟨b, off, none⟩) sh.length cap) (.slice a2 de.length c2) sh de w h1 h2 (by omega) (by omega))
  go_enter Try.func29, Try.ntmps29
  obtain ⟨wA, hA, HBx, HRx, HB0⟩ : ∃ wA : World, Hid (wA = (w.alloc (.cells #[.slice (some ⟨b, off, none⟩) sh.length cap, .slice a2 de.length c2, .int .i64 ch] 26)).alloc (.cells #[.slice none 0 0, .slice none 0 0, .int .i64 0] 26)) ∧ Hid (FBox wA w.heap.size (.slice (some ⟨b, off, none⟩) sh.length cap) (.slice a2 de.length c2) (.int .i64 ch)) ∧ Hid (FBox wA (w.heap.size + 1) (.slice none 0 0) (.slice none 0 0) (.int .i64 0)) ∧ Hid (Below w.heap.size w wA) :=
    ⟨_, rfl, (fbox_new w _ _ _).below (b0 _ _), by have := fbox_new (w.alloc (.cells #[.slice (some ⟨b, off, none⟩) sh.length cap, .slice a2 de.length c2, .int .i64 ch] 26)) (.slice none 0 0) (.slice none 0 0) (.int .i64 0); rw [show (w.alloc (.cells #[.slice (some ⟨b, off, none⟩) sh.length cap, .slice a2 de.length c2, .int .i64 ch] 26)).heap.size = w.heap.size + 1 by simp] at this; exact this, bl (b0 _ _) (b0 _ _)⟩
  have hAz : Hid (wA.heap.size = w.heap.size + 1 + 1) := by show _ = _; rw [hA.out]; simp
  go_upto_region 1 with fail
  rw [← hA.out]
  obtain ⟨M, hM, hmk⟩ : ∃ M : Array Value, Hid (ZM sh de M) ∧ ∀ W, (Instr.makeSlice 22 (.int .i64 (sh.length : Int)) (.int .i64 (sh.length : Int))).run Try.prog W = .ok (.slice (some ⟨W.heap.size, 0, none⟩) sh.length sh.length) (W.alloc (.cells M 2)) := by
    refine ⟨madeCells (Value.int .i64 0).cells (sh.length * iT.size), ?_, fun W => ?_⟩
    · show _ ∧ _
      have := toList_madeCells_one (.int .i64 0) sh.length
      rw [hz1, Nat.mul_one, show (Value.int .i64 0).cells = #[Value.int .i64 0] from rfl, this, paid_zero, List.map_replicate]
      exact ⟨rfl, size_madeCells _ _⟩
    · exact run_make (P := Try.prog) W 22 2 iT (.int .i64 0) Try.underlying22 hi hz0 .i64 .i64 sh.length sh.length (by omega) (Int.le_refl _) (by rw [hz2]; omega) (by omega)
  have HD0 : Hid (Below wA.heap.size wA wA.drew) := (Below.refl _ _).drew
  have HDA : Hid (∀ o, Below wA.heap.size wA (wA.drew.alloc o)) := fun o => bl (Below.refl _ _).drew (b0 _ _)
  have HDB : Hid (∀ o o', Below wA.heap.size wA ((wA.drew.alloc o).alloc o')) := fun o o' => bl (bl (Below.refl _ _).drew (b0 _ _)) (b0 _ _)
  have HR1 : Hid (∀ W, Below wA.heap.size wA W → Rd W (.slice (some ⟨b, off, none⟩) sh.length cap) sh) := fun W h => R1.out.below (bl HB0.out h)
  have HR2 : Hid (∀ W, Below wA.heap.size wA W → Rd W (.slice a2 de.length c2) de) := fun W h => R2.out.below (bl HB0.out h)
  obtain ⟨x0, x1, x2, x3, x4⟩ := HBx.out.parts
  have n1 : ¬ (w.heap.size = wA.heap.size) := by omega
  have n2 : ¬ (w.heap.size = wA.heap.size + 1) := by omega
  have n3 : ¬ (wA.heap.size = w.heap.size) := by omega
  have n4 : ¬ (wA.heap.size + 1 = w.heap.size) := by omega
  go_cut [7, 8] (Made wA sh de ch)
  case first =>
    go_region_held3 (fun w' => w'.cell? ⟨w.heap.size, 0, none⟩ = some (.slice (some ⟨b, off, none⟩) sh.length cap) ∧ w'.cell? ⟨w.heap.size, 1, none⟩ = some (.slice a2 de.length c2) ∧ w'.cell? ⟨w.heap.size, 2, none⟩ = some (.int .i64 ch)) (go_keep)
      (first
        | (go_at_call 44; refine (CL.out _ (HR1.out _ (by first | exact HD0.out | exact HDA.out _ | exact HDB.out _ _)) (HR2.out _ (by first | exact HD0.out | exact HDA.out _ | exact HDB.out _ _))).mono ?_; rintro e w1 ⟨u1, u2, rfl, hs1, hs2, hsep, hb1⟩; obtain ⟨p1, q1, rfl⟩ := sl_shape hs1; obtain ⟨p2, q2, rfl⟩ := sl_shape hs2; have HW1 : Hid (Below wA.heap.size wA w1) := (by first | exact bl HD0.out hb1 | exact bl (HDA.out _) hb1 | exact bl (HDB.out _ _) hb1); have HC1 := Lib.hid hb1; have HS1 := Lib.hid hs1; have HS2 := Lib.hid hs2; have HSP := Lib.hid hsep; have hz := hb1.size; simp at hz; (try have hq1 : ¬ (wA.heap.size = w1.heap.size) := (by omega)); (try have hq2 : ¬ (wA.heap.size + 1 = w1.heap.size) := (by omega)); (try have hq3 : wA.heap.size < w1.heap.size := (by omega)); (try have hq4 : wA.heap.size + 1 < w1.heap.size := (by omega)); have hq5 : ¬ (w.heap.size = w1.heap.size) := (by omega); have hq6 : ¬ (w.heap.size = w1.heap.size + 1) := (by omega); obtain ⟨hc, hf⟩ := bcell hb1; clear hb1 hs1 hs2 hsep; obtain ⟨x0, x1, x2, x3, x4⟩ := (HBx.out.below HW1.out).parts))
    all_goals
      go_wp2_with fail
      go_meet
    all_goals
      first
        | exact made_k1 hn2 hM.out HC1.out HS1.out HS2.out HSP.out
        | exact made_k2 hn2 hM.out HC1.out HS1.out HS2.out HSP.out
        | exact made_k3 hn2 hM.out HC1.out HS1.out HS2.out HSP.out
        | exact made_k4 hn2 hM.out HC1.out HS1.out HS2.out HSP.out
        | exact made_k5 hn2 hM.out HC1.out HS1.out HS2.out HSP.out
        | exact made_k6 hn2 hM.out HC1.out HS1.out HS2.out HSP.out
  case rest =>
    obtain ⟨q, g, u1, u2, rfl, rfl, hF, hs1, hs2, ho, hb, hq, hg, hne, hsep, n1, n2⟩ := hcut
    obtain ⟨p1, q1, rfl⟩ := sl_shape hs1
    obtain ⟨p2, q2, rfl⟩ := sl_shape hs2
    obtain ⟨f0, f1, f2, f3, f4⟩ := hF.parts
    obtain ⟨wq, hwq, HFq, HS1, HS2, HOq, HBq⟩ : ∃ wq : World, Hid (wq = wc.setCell ⟨q, 2, none⟩ (.int .i64 (ch + inc))) ∧ Hid (FBox wq q (.slice p1 sh.length q1) (.slice p2 de.length q2) (.int .i64 (ch + inc))) ∧ Hid (Sl wq wA.heap.size (.slice p1 sh.length q1) sh) ∧ Hid (Sl wq wA.heap.size (.slice p2 de.length q2) de) ∧
        Hid (wq.ownsRow wA.heap.size 2 1 (.slice (some ⟨g, 0, none⟩) sh.length sh.length) sh.length ((paidL sh de 0 sh.length 0).map (Value.int .i64))) ∧ Hid (Below wA.heap.size wA wq) :=
      ⟨_, rfl, hF.set2 _, Marks.sl_grown hs1 (Marks.gset _ q 2 _) (fun k e1 e2 => by injection e1 with e1; exact (n1 k e2).1 e1.symm), Marks.sl_grown hs2 (Marks.gset _ q 2 _) (fun k e1 e2 => by injection e1 with e1; exact (n2 k e2).1 e1.symm), own_other ho (by intro e; exact hne e.symm) _, hb.setCell (by exact hq) _⟩
    obtain ⟨x0, x1, x2, x3, x4⟩ := (HBx.out.below hb).parts
    have hqA : ¬ (w.heap.size = q) := by have := hAz.out; omega
    have hqB : ¬ (w.heap.size + 1 = q) := by have := hAz.out; omega
    have hqC : ¬ (q = w.heap.size + 1) := by have := hAz.out; omega
    have NN1 := Lib.hid n1
    have NN2 := Lib.hid n2
    have HSP := Lib.hid hsep
    clear hF hs1 hs2 ho hb hsep n1 n2
    go_wp2_with fail
    rw [← hwq.out]
    obtain ⟨x0, x1, x2, x3, x4⟩ := (HBx.out.below HBq.out).parts
    refine (LV.out _ _ _ _ (R1.out.below (bl HB0.out HBq.out)) (R2.out.below (bl HB0.out HBq.out))).mono ?_
    rintro e w2 ⟨rfl, hb2⟩
    have HB2 := Lib.hid (bl HBq.out hb2)
    have HO2 := Lib.hid (own_keep HOq.out hb2)
    have HF2 := Lib.hid (HFq.out.below hb2)
    have HU1 := Lib.hid (HS1.out.below hb2)
    have HU2 := Lib.hid (HS2.out.below hb2)
    obtain ⟨x0, x1, x2, x3, x4⟩ := (HBx.out.below HB2.out).parts
    obtain ⟨f0, f1, f2, f3, f4⟩ := HF2.out.parts
    obtain ⟨r0, r1, r2, r3, r4⟩ := (HRx.out.below HB2.out).parts
    have S13 : Hid (Sep (.slice p1 sh.length q1) (.slice (some ⟨g, 0, none⟩) sh.length sh.length)) := fun k e1 e2 => by
      simp [Value.ownBlock] at e2; exact (NN1.out k e1).2 e2.symm
    have S23 : Hid (Sep (.slice p2 de.length q2) (.slice (some ⟨g, 0, none⟩) sh.length sh.length)) := fun k e1 e2 => by
      simp [Value.ownBlock] at e2; exact (NN2.out k e1).2 e2.symm
    have hgz := (lt_own HO2.out)
    clear hb2 HOq HS1 HS2 HFq HBq LV hwq
    by_cases hL : 0 < lv sh de sh.length
    · have hlv2 : lv sh de sh.length ≤ 60000 := by omega
      have PI : Hid (∀ (P : List Int) (C : Int) (ok : Bool), P = paidL sh de ((ch + inc) / lv sh de sh.length) sh.length sh.length → C = (ch + inc) % lv sh de sh.length → ok = true → RawIs sh de ch inc P C ok) := fun P C ok h1 h2 h3 => .inl ⟨hL, h1, h2, h3⟩
      have e0 : 0 ≤ (ch + inc) / lv sh de sh.length := Int.ediv_nonneg (by omega) (by omega)
      have e1 : (ch + inc) / lv sh de sh.length ≤ 1000100000000 := Int.le_trans (Int.ediv_le_self _ (by omega)) (by omega)
      have m0 : 0 ≤ (ch + inc) % lv sh de sh.length := Int.emod_nonneg _ (by omega)
      have m1 : (ch + inc) % lv sh de sh.length < lv sh de sh.length := Int.emod_lt_of_pos _ hL
      have MD : Hid ((ch + inc) - (ch + inc) / lv sh de sh.length * lv sh de sh.length = (ch + inc) % lv sh de sh.length) := by
        show _ = _
        have := Int.mul_ediv_add_emod (ch + inc) (lv sh de sh.length)
        rw [Int.mul_comm] at this; omega
      have d0 : 0 ≤ (ch + inc) / lv sh de sh.length * lv sh de sh.length ∧ (ch + inc) / lv sh de sh.length * lv sh de sh.length ≤ 1000100000000 := by have := MD.out; exact ⟨Int.mul_nonneg e0 (by omega), by omega⟩
      obtain ⟨d0, d1⟩ := d0
      have HO3 : Hid (w2.ownsRow wA.heap.size 2 1 (.slice (some ⟨g, 0, none⟩) sh.length sh.length) sh.length ((paidL sh de ((ch + inc) / lv sh de sh.length) sh.length 0).map (Value.int .i64))) := by
        have := HO2.out
        rw [paid_zero] at this ⊢
        exact this
      clear l0 l1 HO2 r0 r1 r2 r3 r4
      generalize lv sh de sh.length = L at *
      go_wp2_with fail
      go_loopw [35] (fun i wr => ∃ k : Nat, k ≤ sh.length ∧ i = .int .i64 k ∧ Hid (Below wA.heap.size wA wr) ∧ Hid (w2.grownBy wr (some g)) ∧ Hid (wr.ownsRow wA.heap.size 2 1 (.slice (some ⟨g, 0, none⟩) sh.length sh.length) sh.length ((paidL sh de ((ch + inc) / L) sh.length k).map (Value.int .i64)))) (fun i _ => sh.length - (intOf i).toNat)
      case atStart => exact ⟨0, by omega, rfl, HB2.out, World.grownBy.refl _ _, HO3.out⟩
      case round =>
        clear x0 x1 x2 x3 x4 f0 f1 f2 f3 f4
        obtain ⟨k, hk, rfl, HBk, HGk, HOk⟩ := hrel
        obtain ⟨x0, x1, x2, x3, x4⟩ := (HBx.out.below HBk.out).parts
        by_cases hlt : k < sh.length
        · have hki : (k : Int) < (sh.length : Int) := by omega
          have hk0 : 0 ≤ (k : Int) := by omega
          have hg' := WG.out k hlt
          have HCK : Hid (∀ w', Below w.heap.size w w' → w'.cell? ⟨b, off + k, none⟩ = some (.int .i64 (sh.getD k 0))) := fun w' h => rd_cell (cap := cap) hbl h HD.out k hlt
          have HPV : Hid (has de (k : Int) = false → pv sh de ((ch + inc) / L) k = ((ch + inc) / L) * sh.getD k 0) := fun h => by unfold pv; rw [h]; rfl
          have ZC := Lib.hid (paid_at sh de ((ch + inc) / L) sh.length k hlt)
          have PS := Lib.hid (paid_step sh de ((ch + inc) / L) sh.length k hlt)
          have PK := Lib.hid (paid_skip sh de ((ch + inc) / L) sh.length k)
          generalize sh.getD k 0 = x at *
          have hck := HCK.out _ (bl HB0.out HBk.out)
          cases hh : has de (k : Int) with
          | true =>
            have HH := Lib.hid hh
            clear hh
            go_wp2_with fail
            refine (isDead_any ch _ _ de _ _ (R2.out.below (bl HB0.out HBk.out))).mono ?_; rintro e w3 ⟨rfl, hb3⟩; rw [HH.out]
            have HBk2 := Lib.hid (bl HBk.out hb3)
            have HGk2 := Lib.hid (Marks.gtrans HGk.out (grown_bel hb3 _))
            have HOk2 := Lib.hid (own_keep HOk.out hb3)
            clear hb3
            go_wp2
            go_roundw
            case rel => exact ⟨k + 1, by omega, by go_num, HBk2.out, HGk2.out, by show World.ownsRow _ _ _ _ _ _ _; rw [← PK.out HH.out]; exact HOk2.out⟩
            case measure => simp [intOf]; omega
          | false =>
            have HH := Lib.hid hh
            have HPV2 := Lib.hid (HPV.out hh)
            clear hh HPV
            have b1 : 0 ≤ ((ch + inc) / L) * x ∧ ((ch + inc) / L) * x ≤ 1000100000000000 := ⟨Int.mul_nonneg e0 (by omega), by have := Int.mul_le_mul e1 hg'.2 (by omega) (by omega); omega⟩
            obtain ⟨b1, b2⟩ := b1
            go_wp2_with fail
            refine (isDead_any ch _ _ de _ _ (R2.out.below (bl HB0.out HBk.out))).mono ?_; rintro e w3 ⟨rfl, hb3⟩; rw [HH.out]
            have HBk2 := Lib.hid (bl HBk.out hb3)
            have HGk2 := Lib.hid (Marks.gtrans HGk.out (grown_bel hb3 _))
            have HOk2 := Lib.hid (own_keep HOk.out hb3)
            clear hb3 x0 x1 x2 x3 x4
            obtain ⟨x0, x1, x2, x3, x4⟩ := (HBx.out.below HBk2.out).parts
            have hcz : w3.cell? ⟨g, k, none⟩ = some (.int .i64 0) := by rw [HOk2.out.cellAt k (by omega)]; exact ZC.out
            have hfz := HOk2.out.frozenAt k
            have hwp := lt_of_cell hcz
            obtain ⟨s1, s2⟩ := HOk2.out.stored k (.int .i64 (((ch + inc) / L) * x))
            have HS1 := Lib.hid s1
            have HGk3 := Lib.hid (Marks.gtrans HGk2.out s2)
            have HBk3 := Lib.hid (HBk2.out.setCell (p := ⟨g, k, none⟩) (by exact hg) (.int .i64 (((ch + inc) / L) * x)))
            clear s1 s2
            go_wp2
            go_roundw
            case rel => exact ⟨k + 1, by omega, by go_num, HBk3.out, HGk3.out, by show World.ownsRow _ _ _ _ _ _ _; rw [← PS.out, HPV2.out, List.map_set]; exact HS1.out⟩
            case measure => simp [intOf]; omega
        · obtain rfl : k = sh.length := by omega
          have hki : ¬ ((sh.length : Int) < (sh.length : Int)) := by omega
          have HFk : Hid (FBox wr q (.slice p1 sh.length q1) (.slice p2 de.length q2) (.int .i64 (ch + inc))) := (HGk.out.block q HF2.out.lt (fun e => hne (by injection e))).trans HF2.out
          obtain ⟨f0, f1, f2, f3, f4⟩ := HFk.out.parts
          obtain ⟨r0, r1, r2, r3, r4⟩ := (HRx.out.below HBk.out).parts
          have HV1 := Lib.hid (Marks.sl_grown HU1.out HGk.out (fun k e1 e2 => by injection e1 with e1; exact (NN1.out k e2).2 e1.symm))
          have HV2 := Lib.hid (Marks.sl_grown HU2.out HGk.out (fun k e1 e2 => by injection e1 with e1; exact (NN2.out k e2).2 e1.symm))
          have HPS := Lib.hid (sl_of_own HOk.out (by rw [paid_len]; omega))
          have cc : ch + inc - (ch + inc) / L * L ≤ 1000000000000 := by have := MD.out; omega
          have cb : decide (ch + inc - (ch + inc) / L * L ≤ 1000000000000) = true := decide_eq_true cc
          go_upto_region 13 with fail
          go_region
          all_goals
            go_wp2_with fail
            refine bodyPost_ret (v := .tuple #[.agg #[.slice p1 sh.length q1, .slice p2 de.length q2, .int .i64 (ch + inc - (ch + inc) / L * L)], .slice (some ⟨g, 0, none⟩) sh.length sh.length, .bool true]) (by simp [results, Try.results29, go_sem, r0, r1, r2]) rfl ?_
            refine ⟨_, _, _, _, _, _, rfl, ⟨?_, ?_, ?_, HSP.out, S13.out, S23.out⟩, ?_, PI.out _ _ _ rfl MD.out rfl⟩
            · refine sl_mono (B := wA.heap.size) (by have := hAz.out; omega) ?_
              repeat (refine sl_setCell ?_ (by have := hAz.out; simp; omega) _)
              exact Marks.sl_grown HV1.out (Marks.gset _ q 2 _) (fun k e1 e2 => by injection e1 with e1; exact (NN1.out k e2).1 e1.symm)
            · refine sl_mono (B := wA.heap.size) (by have := hAz.out; omega) ?_
              repeat (refine sl_setCell ?_ (by have := hAz.out; simp; omega) _)
              exact Marks.sl_grown HV2.out (Marks.gset _ q 2 _) (fun k e1 e2 => by injection e1 with e1; exact (NN2.out k e2).1 e1.symm)
            · refine sl_mono (B := wA.heap.size) (by have := hAz.out; omega) ?_
              repeat (refine sl_setCell ?_ (by have := hAz.out; simp; omega) _)
              exact Marks.sl_grown HPS.out (Marks.gset _ q 2 _) (fun k e1 e2 => by injection e1 with e1; simp [Value.ownBlock] at e2; omega)
            · try refine Below.drew ?_
              repeat (refine Below.setCell ?_ (by simp <;> omega) _)
              exact bl HB0.out HBk.out
    · have hL0 : Hid (lv sh de sh.length = 0) := Lib.hid (by omega)
      have hLz : lv sh de sh.length ≤ 0 := by omega
      have HPS := Lib.hid (sl_of_own HO2.out (by rw [paid_len]; omega))
      clear hL
      go_upto_region 13 with fail
      go_region
      all_goals
        go_wp2_with fail
        refine bodyPost_ret (v := .tuple #[.agg #[.slice p1 sh.length q1, .slice p2 de.length q2, .int .i64 (ch + inc)], .slice (some ⟨g, 0, none⟩) sh.length sh.length, .bool (decide (ch + inc ≤ 1000000000000))]) (by simp [results, Try.results29, go_sem, r0, r1, r2]) rfl ?_
        refine ⟨_, _, _, _, _, _, rfl, ⟨?_, ?_, ?_, HSP.out, S13.out, S23.out⟩, ?_, .inr ⟨hL0.out, rfl, rfl, rfl⟩⟩
        · refine sl_mono (B := wA.heap.size) (by have := hAz.out; omega) ?_
          repeat (refine sl_setCell ?_ (by have := hAz.out; simp; omega) _)
          exact HU1.out
        · refine sl_mono (B := wA.heap.size) (by have := hAz.out; omega) ?_
          repeat (refine sl_setCell ?_ (by have := hAz.out; simp; omega) _)
          exact HU2.out
        · refine sl_mono (B := wA.heap.size) (by have := hAz.out; omega) ?_
          repeat (refine sl_setCell ?_ (by have := hAz.out; simp; omega) _)
          exact HPS.out
        · try refine Below.drew ?_
          repeat (refine Below.setCell ?_ (by simp <;> omega) _)
          exact bl HB0.out HB2.out
end Go.Proofs.Ytenaeehefamdmaa.Pays
