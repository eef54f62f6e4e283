/-
  Contract of the program's shareOut: the walk.
  Conditions: as the contract says.
-/
import Derived.Test.YtenaeehefamdmaaShareImpl
namespace Go.Proofs.Ytenaeehefamdmaa.Shares
open Go.RowKit Mem Owns Sorts Go.Sort
open Concats (Cells oneCells)
set_option linter.unusedVariables false

set_option maxHeartbeats 4000000 in
set_option maxRecDepth 100000 in
theorem shareOut_any (A : Int) (v : Value) (ws : List Int) (n : Nat) (w : World) (h : Rd w v ws) (hn : ws.length = n + 1) (hn2 : ws.length ≤ 1000) (hw : within 0 1000000000 ws = true) (a0 : 0 ≤ A) (a1 : A ≤ 1000000000) (hT : 1 ≤ ws.sum) (hT1 : ws.sum ≤ 1000000000000) :
    Calls Try.prog 36 #[.int .i64 A, v] w (ShareOne A ws n w) := by
  obtain ⟨iT, hi, hz0, hz1, hz2⟩ := info_parts Concats.info64
  obtain ⟨jT, hj, hj0, hj1, hj2⟩ := info_parts infoInt
  have SM := Lib.hid (fun w h => Lists.total_any v ws w h 1000000000 (by omega) (within_mono hw (by omega) (by omega)) (by omega))
  have WG := Lib.hid (fun i hi => within_get hw i hi)
  have R0 := Lib.hid h
  rcases h with ⟨rfl, rfl⟩ | ⟨b, off, cap, rfl, hnn, hl, hm, hbl, hx⟩
  · simp at hn
  have HX := Lib.hid hx
  obtain ⟨lb0, lb1⟩ := left_bd A ws hT (by omega)
  have QT := Lib.hid (fun k hk => qL_take A ws.sum ws k hk)
  have HLQ := Lib.hid (qL_len A ws.sum ws)
  have WQ := qL_within a0 a1 hw hT
  have SMQ := Lib.hid (fun v w h => total_q v (qL A ws.sum ws) w h 1000000000 (by omega) (within_mono WQ (by omega) (by omega)) (by rw [qL_len]; omega))
  obtain ⟨L, hL⟩ : ∃ L : Nat, A - (qL A ws.sum ws).sum = (L : Int) := ⟨(A - (qL A ws.sum ws).sum).toNat, by omega⟩
  have HLT : Hid ((A - (qL A ws.sum ws).sum).toNat = L) := by show _ = _; omega
  have hLn : L < ws.length := by omega
  have FIN : Hid (∀ (u : Value) (d : Array (Fin (n + 1))) (w' : World), Valid A ws.sum ws n d → Sl w' w.heap.size u (outK (qL A ws.sum ws) d L) → Below w.heap.size w w' → ShareOne A ws n w (.returned u) w') := fun u d w' h1 h2 h3 => ⟨u, d, rfl, h1, by rw [HLT.out]; exact h2, h3⟩
  have WQB := Lib.hid (fun i hi => within_get WQ i hi)
  have HSRT : Hid (∀ (N cr q5 gr : Nat) (w1 : World), N = n + 1 → Boxes w1 w.heap.size q5 A ws.sum (.slice (some ⟨b, off, none⟩) N cap) → (∀ k, k < n + 1 → w1.cell? ⟨b, off + k, none⟩ = some (.int .i64 (ws.getD k 0))) → b < w.heap.size → w.heap.size + 2 ≤ gr → gr ≠ q5 → gr < w1.heap.size → Holds (encR n) w1 gr 0 (idt n) →
      Calls Try.prog 49 #[.slice (some ⟨gr, 0, none⟩) N cr, .func (.func 50) #[] #[.pointer (some ⟨w.heap.size, 0, none⟩), .pointer (some ⟨w.heap.size + 1, 0, none⟩), .pointer (some ⟨q5, 0, none⟩)]] w1 (Ordered A ws.sum ws n gr w1)) := fun N cr q5 gr w1 hN HBX hc hb hgr hne hlt hh => by
    subst hN
    obtain ⟨x1, x2, x3, x4, x5⟩ := HBX
    exact sort_any A ws.sum ws n cr cap w.heap.size (w.heap.size + 1) q5 b off gr w1 x1 x2 x3 hc (fun k hk => WG.out k (by omega)) a0 a1 hT hT1 (by omega) (by omega) x4 x5 (by omega) hlt (by omega) (by omega) (fun e => hne e.symm) (by omega) hh
  clear WQ lb0 lb1
  have HNL := Lib.hid hn
  have hpos : 1 ≤ ws.length := by omega
  clear hx hw hn
  obtain ⟨wA, hA, hAz, xA1, xA2, HBA⟩ : ∃ wA : World, Hid (wA = (w.alloc (.cells #[.int .i64 A] 2)).alloc (.cells #[.slice (some ⟨b, off, none⟩) ws.length cap] 22)) ∧ wA.heap.size = w.heap.size + 2 ∧ wA.cell? ⟨w.heap.size, 0, none⟩ = some (.int .i64 A) ∧ wA.cell? ⟨w.heap.size + 1, 0, none⟩ = some (.slice (some ⟨b, off, none⟩) ws.length cap) ∧ Hid (Below w.heap.size w wA) :=
    ⟨_, rfl, by simp, by simp [go_sem], by simp [go_sem], bl (b0 _ _) (b0 _ _)⟩
  go_enter Try.func36, Try.ntmps36
  go_wp2_with fail
  rw [← hA.out]
  refine (SM.out wA (R0.out.below HBA.out)).mono ?_; rintro e w1 ⟨rfl, hb1⟩
  have HB1 := Lib.hid (bl HBA.out hb1)
  have y1 := (hb1.cell (p := ⟨w.heap.size, 0, none⟩) (by simp; omega)).trans xA1
  have y2 := (hb1.cell (p := ⟨w.heap.size + 1, 0, none⟩) (by simp; omega)).trans xA2
  have y3 : w.heap.size + 1 < w1.heap.size := by have := hb1.size; omega
  have MR := Lib.hid (fun wL h => made_rows (A := A) (T := ws.sum) y1 y2 y3 wL h)
  generalize ws.sum = T at *
  generalize hqs : qL A T ws = qs at *
  clear hb1 hqs SM xA1 xA2 hAz
  obtain ⟨u1, u2, u3, u4, u5⟩ := (MR.out _ rfl).2.2.1
  go_wp2_with fail
  clear u1 u2 u3 u4 u5
  go_loopw [6, 7, 18] (fun o r i wr => ∃ (k co cr : Nat) (ao ar : Option Addr), k ≤ ws.length ∧ o = .slice ao k co ∧ r = .slice ar k cr ∧ i = .int .i64 k ∧ Hid (wr.ownsRow (w.heap.size + 2) 2 1 (.slice ao k co) k ((qs.take k).map (Value.int .i64))) ∧ Hid (wr.ownsRow (w.heap.size + 2) 3 1 (.slice ar k cr) k (upTo k)) ∧ Hid (Sep (.slice ao k co) (.slice ar k cr)) ∧ Hid (Boxes wr w.heap.size (w1.heap.size + 1 + 1) A T (.slice (some ⟨b, off, none⟩) ws.length cap)) ∧ Hid (Off (.slice ao k co) w.heap.size (w1.heap.size + 1 + 1)) ∧ Hid (Off (.slice ar k cr) w.heap.size (w1.heap.size + 1 + 1)) ∧ Hid (Below w.heap.size w wr)) (fun _ _ i _ => ws.length - (intOf i).toNat)
  case atStart =>
    obtain ⟨m1, m2, m3, m4⟩ := MR.out _ rfl
    refine ⟨0, 0, 0, some ⟨w1.heap.size, 0, none⟩, some ⟨w1.heap.size + 1, 0, none⟩, Nat.zero_le _, rfl, rfl, rfl, m1, m2, ?_, m3, ?_, ?_, bl HB1.out m4⟩
    · intro k e1 e2
      simp [Value.ownBlock] at e1 e2; omega
    · intro k e1
      simp [Value.ownBlock] at e1; omega
    · intro k e1
      simp [Value.ownBlock] at e1; omega
  case round =>
    obtain ⟨k, co, cr, ao, ar, hk, rfl, rfl, rfl, HO, HR, HS, HX5, F1, F2, HB⟩ := hrel
    obtain ⟨z1, z2, z3, z4, z5⟩ := HX5.out
    by_cases hlt : k < ws.length
    · have HCK : Hid (∀ w', Below w.heap.size w w' → w'.cell? ⟨b, off + k, none⟩ = some (.int .i64 (ws.getD k 0))) := fun w' h => (h.cell (p := ⟨b, off + k, none⟩) hbl).trans (HX.out k hlt)
      have hck := HCK.out _ HB.out
      obtain ⟨g1, g2⟩ := WG.out k hlt
      have Q1 := Lib.hid (QT.out k hlt)
      generalize ws.getD k 0 = x at *
      have hki : (k : Int) < (ws.length : Int) := by omega
      have hk0 : (0 : Int) ≤ (k : Int) := by omega
      have p0 : 0 ≤ A * x ∧ A * x ≤ 1000000000000000000 := ⟨Int.mul_nonneg a0 g1, by have := Int.mul_le_mul a1 g2 g1 (by omega); omega⟩
      obtain ⟨p0, p1⟩ := p0
      go_wp2_with (at_builtin; refine wpList_append_own_at _ rfl _ _ 22 rfl (w.heap.size + 2) 2 iT (.int .i64 0) 1 8 Try.underlying22 hi hz0 hz1 hz2 rfl (by decide) _ _ _ rfl (HO.out.alloc _) ⟨wr.heap.size, 0, none⟩ 1 1 [.int .i64 (A * x / T)] rfl rfl ?c1 ?c2 ?c3 ?c4 ?c5 ?c6)
      case c1 =>
        intro j u hj; match j, hj with | 0, hj => simp at hj; subst hj; simp [Addr.add]
      case c2 => intro u hu; simp at hu; subst hu; rfl
      case c3 => unfold maxLen; omega
      case c4 => omega
      case c5 => simp; omega
      intro v1 w2 hown1 hg1 _ hat1
      obtain ⟨ao', co', rfl⟩ := own_shape hown1
      obtain ⟨tr1, tr2⟩ := two_rowsE HO.out HR.out HS.out hg1 hat1
      have HO2 := Lib.hid hown1
      have HR2 := Lib.hid tr1
      have HS2 := Lib.hid tr2
      have F12 := Lib.hid (F1.out.step z4 z5 hat1)
      have HX2 := Lib.hid ((HX5.out.below (b0 _ _)).grown hg1 F1.out)
      have HB2 := Lib.hid (app_step HB.out HB.out.size (own_base (by omega) HO.out) hg1).1
      obtain ⟨z1, z2, z3, z4, z5⟩ := HX2.out
      clear hown1 hg1 hat1 tr1 tr2 HO HR HS HB HX5 F1
      go_wp2_with (at_builtin; refine wpList_append_own_at _ rfl _ _ 63 rfl (w.heap.size + 2) 3 jT (.int .i64 0) 1 8 Try.underlying63 hj hj0 hj1 hj2 rfl (by decide) _ _ _ rfl (HR2.out.alloc _) ⟨w2.heap.size, 0, none⟩ 1 1 [.int .i64 (k : Nat)] rfl rfl ?d1 ?d2 ?d3 ?d4 ?d5 ?d6)
      case d1 =>
        intro j u hj; match j, hj with | 0, hj => simp at hj; subst hj; simp [Addr.add]
      case d2 => intro u hu; simp at hu; subst hu; rfl
      case d3 => unfold maxLen; omega
      case d4 => omega
      case d5 => simp; omega
      intro v2 w3 hown2 hg2 _ hat2
      obtain ⟨ar', cr', rfl⟩ := own_shape hown2
      obtain ⟨tr1, tr2⟩ := two_rowsE HR2.out HO2.out (fun k e1 e2 => HS2.out k e2 e1) hg2 hat2
      have HO3 := Lib.hid tr1
      have HR3 := Lib.hid hown2
      have HS3 : Hid (Sep (.slice ao' (k + 1) co') (.slice ar' (k + 1) cr')) := fun k e1 e2 => tr2 k e2 e1
      have F23 := Lib.hid (F2.out.step z4 z5 hat2)
      have HX3 := Lib.hid ((HX2.out.below (b0 _ _)).grown hg2 F2.out)
      have HB3 := Lib.hid (app_step HB2.out HB2.out.size (own_base (by omega) HR2.out) hg2).1
      clear hown2 hg2 hat2 tr1 tr2 HO2 HR2 HS2 HB2 HX2 F2 z1 z2 z3 z4 z5
      go_wp2
      go_roundw
      case rel => exact ⟨k + 1, co', cr', ao', ar', by omega, rfl, rfl, by go_num, by show World.ownsRow _ _ _ _ _ _ _; rw [Q1.out, List.map_append, List.map_take]; exact HO3.out, by show World.ownsRow _ _ _ _ _ _ _; rw [upTo_succ]; exact HR3.out, HS3.out, HX3.out, F12.out, F23.out, HB3.out⟩
      case measure => simp [intOf]; omega
    · obtain rfl : k = ws.length := by omega
      have HO1 : Hid (wr.ownsRow (w.heap.size + 2) 2 1 (.slice ao ws.length co) ws.length (qs.map (Value.int .i64))) := by have := HO.out; rw [List.take_of_length_le (by rw [HLQ.out]; exact Nat.le_refl _)] at this; exact this
      have HR1 := HR
      obtain ⟨go, rfl⟩ := own_addr HO1.out hpos
      obtain ⟨gr, rfl⟩ := own_addr HR1.out hpos
      have hgg : go ≠ gr := fun e => HS.out go rfl (by rw [e]; rfl)
      obtain ⟨k1, k2⟩ := own_cap HR1.out
      have l1 := HO1.out.lt go rfl
      have l2 := HR1.out.lt gr rfl
      have f1 := F1.out go rfl
      have f2 := F2.out gr rfl
      have HH : Hid (Holds (encR n) wr gr 0 (idt n)) := by
        have := HR1.out
        rw [HNL.out] at this
        exact holds_upTo this
      have SRT := Lib.hid (HSRT.out ws.length cr (w1.heap.size + 1 + 1) gr wr HNL.out HX5.out (fun k hk => (HB.out.cell (p := ⟨b, off + k, none⟩) hbl).trans (HX.out k (by have := HNL.out; omega))) hbl l2.1 f2.2.2 l2.2 HH.out)
      clear HO HR HS HSRT MR
      go_wp2_with fail
      refine SRT.out.mono ?_; rintro e w2 ⟨rfl, d, hs, hp, hq, ht⟩
      have VD : Hid (Valid A T ws n d) := ⟨hp, hq, ht⟩
      have hdz : d.size = n + 1 := VD.out.size
      have hg := sw_grown hs
      have HO2 := Lib.hid (own_grown HO1.out hg (fun k e1 e2 => by injection e1 with e1; simp [Value.ownBlock] at e2; omega))
      have HD2 : Hid (Holds (encR n) w2 gr 0 d) := hs.holds l2.2 HH.out (by rw [hdz, idt_size])
      have HX2 := Lib.hid (HX5.out.grown (v := .slice (some ⟨gr, 0, none⟩) 0 0) hg F2.out)
      have HB2 : Hid (Below w.heap.size w w2) := HB.out.grown hg HB.out.size (fun k hk => by injection hk with hk; omega)
      have RQ : Hid (∀ q, Rd (w2.drewN q) (.slice (some ⟨go, 0, none⟩) ws.length co) qs) := fun q => (sl_of_own HO2.out (by rw [HLQ.out]; omega)).rd.below (bd w2 q)
      obtain ⟨z1, z2, z3, z4, z5⟩ := HX2.out
      have hLc : (L : Int) ≤ (cr : Int) := by omega
      have hL0 : (0 : Int) ≤ (L : Int) := by omega
      have hg2 : gr < w2.heap.size := by have := hg.size; omega
      clear hs hp hq ht hg HO1 HR1 HH SRT HX5 HX2 HB
      go_wp2_with fail
      go_quiet ((go_at_call 35; exact Calls.quiet_of (SMQ.out _ _ (RQ.out _))))
      go_wp2_with fail
      go_loopw [46] (fun vi wx => ∃ (j : Nat) (os : List Int), vi = .int .i64 j ∧ j ≤ L ∧ Hid (os = outK qs d j) ∧ Hid (wx.ownsRow (w.heap.size + 2) 2 1 (.slice (some ⟨go, 0, none⟩) ws.length co) ws.length (os.map (Value.int .i64))) ∧ Hid (Holds (encR n) wx gr 0 d) ∧ gr < wx.heap.size ∧ Hid (∀ i, i < ws.length → 0 ≤ os.getD i 0 ∧ os.getD i 0 ≤ 1000000000 + j) ∧ Hid (Below w.heap.size w wx)) (fun vi _ => L - (intOf vi).toNat)
      case atStart =>
        refine ⟨0, qs, rfl, Nat.zero_le _, rfl, own_below HO2.out (bd _ _), fun i hi => HD2.out i hi, by show gr < w2.heap.size; have := hg2; omega, fun i hi => ?_, bl HB2.out (bd _ _)⟩
        have := WQB.out i (by rw [HLQ.out]; exact hi)
        exact ⟨this.1, by omega⟩
      case round =>
        clear z1 z2 z3 z4 z5 HO2 HD2 HB2
        obtain ⟨j, os, rfl, hjL, HV, HO, HD, hgx, BD, HB⟩ := hrel
        by_cases hlt : j < L
        · have hjn : j < n + 1 := by have := HNL.out; omega
          have hcd : wr.cell? ⟨gr, j, none⟩ = some (.int .i64 (d[j]!.val : Nat)) := by
            have := (HD.out j (by omega)).1
            rw [Nat.zero_add] at this
            exact this
          have htn : d[j]!.val < ws.length := by have := d[j]!.isLt; have := HNL.out; omega
          have HSU : Hid (os.set d[j]!.val (os.getD d[j]!.val 0 + 1) = outK qs d (j + 1)) := by show _ = _; rw [outK_succ, ← HV.out]
          generalize d[j]!.val = t at *
          have LO : Hid (os.length = ws.length) := by have h1 := outK_len qs d j; rw [← HV.out] at h1; show _ = _; rw [h1]; exact HLQ.out
          have htz : (t : Int) < (ws.length : Int) := by omega
          have ht0 : (0 : Int) ≤ (t : Int) := by omega
          have hjz : (j : Int) < (L : Int) := by omega
          have hj0' : (0 : Int) ≤ (j : Int) := by omega
          have hco : wr.cell? ⟨go, t, none⟩ = some (.int .i64 (os.getD t 0)) := by
            rw [HO.out.cellAt t (by omega), List.getElem?_map]
            have := LO.out
            simp [List.getD, this, htn]
          have hfo := HO.out.frozenAt t
          obtain ⟨t1, t2⟩ := BD.out t htn
          obtain ⟨s1, _⟩ := HO.out.stored t (.int .i64 (os.getD t 0 + 1))
          have HO5 := Lib.hid s1
          have HD5 := Lib.hid (holds_set (t := t) (v := .int .i64 (os.getD t 0 + 1)) hgg HD.out)
          have HB5 := Lib.hid (HB.out.setCell (p := ⟨go, t, none⟩) (show w.heap.size ≤ go by omega) (.int .i64 (os.getD t 0 + 1)))
          have BD5 : Hid (∀ i, i < ws.length → 0 ≤ (os.set t (os.getD t 0 + 1)).getD i 0 ∧ (os.set t (os.getD t 0 + 1)).getD i 0 ≤ 1000000000 + (j + 1 : Nat)) := fun i hi => by
            rw [getD_set _ _ _ _ (by rw [LO.out]; exact htn)]
            have := BD.out i hi
            split <;> (constructor <;> omega)
          have hgx5 : gr < (wr.setCell ⟨go, t, none⟩ (.int .i64 (os.getD t 0 + 1))).heap.size := by simpa using hgx
          clear s1 BD HO HD HB HV
          generalize os.getD t 0 = x at *
          go_wp2
          go_roundw
          case rel => exact ⟨j + 1, os.set t (x + 1), by go_num, by omega, HSU.out, by show World.ownsRow _ _ _ _ _ _ _; rw [List.map_set]; exact HO5.out, HD5.out, hgx5, BD5.out, HB5.out⟩
          case measure => simp [intOf]; omega
        · obtain rfl : j = L := by omega
          have hjz : ¬ (j : Int) < (j : Int) := by omega
          have LO : Hid (os.length = ws.length) := by have h1 := outK_len qs d j; rw [← HV.out] at h1; show _ = _; rw [h1]; exact HLQ.out
          have HS := Lib.hid (sl_of_own (n := ws.length) (xs := os) (own_base (C := w.heap.size) (by omega) HO.out) (by rw [LO.out]; omega))
          have FF := Lib.hid (FIN.out (.slice (some ⟨go, 0, none⟩) ws.length co) d wr VD.out (by rw [← HV.out]; exact HS.out) HB.out)
          go_wp2_with fail
          go_ret
          exact FF.out
end Go.Proofs.Ytenaeehefamdmaa.Shares
