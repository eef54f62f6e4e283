/-
  Contract of the reference's l01Share.
  Conditions: as the contract says.
-/
import Derived.Test.YtenaeehefamdmaaSharePlain
import Derived.Test.YtenaeehefamdmaaLists
import Derived.Test.YtenaeehefamdmaaOwns
import Derived.Maps.AppendAt
import Derived.Deep.QuietTactic
import Derived.BigQuiet
namespace Go.Proofs.Ytenaeehefamdmaa.Shares
open Go.RowKit Mem Owns Sorts
open Concats (Cells oneCells)
set_option linter.unusedVariables false

theorem own_grown {w w' : World} {B e n : Nat} {v : Value} {xs : List Value} {r : Option Nat} (h : w.ownsRow B e 1 v n xs) (g : w.grownBy w' r) (hne : ∀ k, r = some k → v.ownBlock = some k → False) : w'.ownsRow B e 1 v n xs := by
  obtain ⟨h1, h2⟩ := h
  refine ⟨h1, ?_⟩
  rcases h2 with h2 | ⟨q, cap, cur, hv, hq, hh, r'⟩
  · exact .inl h2
  · exact .inr ⟨q, cap, cur, hv, hq, (g.block q (lt_of_get hh) (fun e => hne q e.symm (by rw [hv]; rfl))).trans hh, r'⟩
theorem own_below {w w' : World} {B e n : Nat} {v : Value} {xs : List Value} (h : w.ownsRow B e 1 v n xs) (g : Below w.heap.size w w') : w'.ownsRow B e 1 v n xs := by
  obtain ⟨h1, h2⟩ := h
  refine ⟨h1, ?_⟩
  rcases h2 with h2 | ⟨q, cap, cur, hv, hq, hh, r'⟩
  · exact .inl h2
  · exact .inr ⟨q, cap, cur, hv, hq, (g.block q (lt_of_get hh)).trans hh, r'⟩
/-- Where an append has left two rows. -/
theorem two_rows {w w1 : World} {o : Obj} {B e n m : Nat} {v v' u : Value} {xs ys : List Value} (hv : w.ownsRow B e 1 v n xs) (hu : w.ownsRow B e 1 u m ys) (hs : Sep v u) (hg : (w.alloc o).grownBy w1 v.ownBlock) (ha : v'.ownBlock = v.ownBlock ∨ v'.ownBlock = some (w.heap.size + 1)) :
    w1.ownsRow B e 1 u m ys ∧ Sep v' u := by
  refine ⟨own_grown (own_below hu (b0 w o)) hg (fun k e1 e2 => hs k e1 e2), fun k e1 e2 => ?_⟩
  rcases ha with ha | ha
  · rw [ha] at e1; exact hs k e1 e2
  · rw [ha] at e1
    injection e1 with e1
    have := (hu.lt k e2).2
    omega

theorem qL_within {A : Int} {ws : List Int} (a0 : 0 ≤ A) (a1 : A ≤ 1000000000) (hw : within 0 1000000000 ws = true) (hT : 1 ≤ ws.sum) : within 0 1000000000 (qL A ws.sum ws) = true := by
  have h0 : ∀ x ∈ ws, 0 ≤ x := fun x hx => by
    obtain ⟨i, hi, rfl⟩ := List.getElem_of_mem hx
    have := within_get hw i hi
    simp only [List.getD, List.getElem?_eq_getElem hi, Option.getD_some] at this
    exact this.1
  obtain ⟨_, h1⟩ := mem_sum h0
  simp only [within, List.all_eq_true, decide_eq_true_eq]
  intro y hy
  obtain ⟨x, hx, rfl⟩ := List.mem_map.1 hy
  have := share_bd (A := A) a0 hT (h0 x hx) (h1 x hx)
  omega
theorem own_addr {w : World} {B e n c : Nat} {a : Option Addr} {xs : List Value} (h : w.ownsRow B e 1 (.slice a n c) n xs) (hn : 1 ≤ n) : ∃ g, a = some ⟨g, 0, none⟩ := by
  rcases h.2 with ⟨h1, h2⟩ | ⟨g, cap, cur, hv, _⟩
  · omega
  · injection hv with hv
    exact ⟨g, hv⟩
/-- What a scan for the first greatest number has found. -/
def Scan (r : List Int) (b i : Nat) : Prop := (∀ j, j < i → r.getD j 0 ≤ r.getD b 0) ∧ (∀ j, j < b → r.getD j 0 < r.getD b 0)
theorem scan_take {r : List Int} {b i : Nat} (h : Scan r b i) (hb : b ≤ i) (hg : r.getD b 0 < r.getD i 0) : Scan r i (i + 1) :=
  ⟨fun j hj => by
    by_cases e : j = i
    · subst e; omega
    · have := h.1 j (by omega); omega, fun j hj => by have := h.1 j hj; omega⟩
theorem scan_keep {r : List Int} {b i : Nat} (h : Scan r b i) (hg : ¬ r.getD b 0 < r.getD i 0) : Scan r b (i + 1) :=
  ⟨fun j hj => by
    by_cases e : j = i
    · subst e; omega
    · exact h.1 j (by omega), h.2⟩
theorem made_next (w : World) (o : Obj) (B : Nat) (hB : B ≤ w.heap.size) : ((w.alloc o).alloc (.cells #[] 2)).ownsRow B 2 1 (.slice (some ⟨w.heap.size + 1, 0, none⟩) 0 0) 0 [] := by
  have h := World.ownsRow_made (e := 2) (size := 1) (base := B) (w.alloc o) #[] 0 (by simp; omega) (by unfold maxLen; omega) rfl
  rw [show (w.alloc o).heap.size = w.heap.size + 1 by simp] at h
  exact h
/-- What the reference's l01Share returns: the shares by whatever order of the rests. -/
def ShareAll (A : Int) (ws : List Int) (n : Nat) (w : World) (e : Ending) (w' : World) : Prop := ∃ (u : Value) (os : List Int), e = .returned u ∧ Sl w' w.heap.size u os ∧ Below w.heap.size w w' ∧ ∀ d, Valid A ws.sum ws n d → os = outK (qL A ws.sum ws) d (A - (qL A ws.sum ws).sum).toNat
theorem outK_succ {n : Nat} (q : List Int) (d : Array (Fin (n + 1))) (k : Nat) : outK q d (k + 1) = (outK q d k).set d[k]!.val ((outK q d k).getD d[k]!.val 0 + 1) := rfl
theorem resK_succ {n : Nat} (r : List Int) (d : Array (Fin (n + 1))) (k : Nat) : resK r d (k + 1) = (resK r d k).set d[k]!.val (-1) := rfl
set_option maxHeartbeats 4000000 in
set_option maxRecDepth 100000 in
theorem l01Share_any (A : Int) (v : Value) (ws : List Int) (n : Nat) (w : World) (h : Rd w v ws) (hn : ws.length = n + 1) (hn2 : ws.length ≤ 1000) (hw : within 0 1000000000 ws = true) (a0 : 0 ≤ A) (a1 : A ≤ 1000000000) (hT : 1 ≤ ws.sum) (hT1 : ws.sum ≤ 1000000000000) :
    Calls Try.prog 32 #[.int .i64 A, v] w (ShareAll A ws n w) := by
  obtain ⟨iT, hi, hz0, hz1, hz2⟩ := info_parts Concats.info64
  have SM := Lib.hid (fun w h => Lists.l01Sum_any v ws w h 1000000000 (by omega) (within_mono hw (by omega) (by omega)) (by omega))
  have WG := Lib.hid (fun i hi => within_get hw i hi)
  have R0 := Lib.hid h
  rcases h with ⟨rfl, rfl⟩ | ⟨b, off, cap, rfl, hnn, hl, hm, hbl, hx⟩
  · simp at hn
  have HX := Lib.hid hx
  obtain ⟨lb0, lb1⟩ := left_bd A ws hT (by omega)
  have QT := Lib.hid (fun k hk => qL_take A ws.sum ws k hk)
  have RT := Lib.hid (fun k hk => rL_take A ws.sum ws k hk)
  have HLQ := Lib.hid (qL_len A ws.sum ws)
  have HLR := Lib.hid (rL_len A ws.sum ws)
  have RG := Lib.hid (fun i hi => rL_get A ws.sum ws i hi)
  have WQ := qL_within a0 a1 hw hT
  have SMQ := Lib.hid (fun v w h => Lists.l01Sum_any v (qL A ws.sum ws) w h 1000000000 (by omega) (within_mono WQ (by omega) (by omega)) (by rw [qL_len]; omega))
  obtain ⟨L, hL⟩ : ∃ L : Nat, A - (qL A ws.sum ws).sum = (L : Int) := ⟨(A - (qL A ws.sum ws).sum).toNat, by omega⟩
  have HLT : Hid ((A - (qL A ws.sum ws).sum).toNat = L) := by show _ = _; omega
  have hLn : L < ws.length := by omega
  have FIN : Hid (∀ (u : Value) (os : List Int) (w' : World), Sl w' w.heap.size u os → Below w.heap.size w w' → (∀ d, Valid A ws.sum ws n d → os = outK (qL A ws.sum ws) d L) → ShareAll A ws n w (.returned u) w') := fun u os w' h1 h2 h3 => ⟨u, os, rfl, h1, h2, fun d hd => by rw [HLT.out]; exact h3 d hd⟩
  have WQB := Lib.hid (fun i hi => within_get WQ i hi)
  clear WQ lb0 lb1
  have R00 : Hid (∀ i, 0 ≤ rest A ws.sum ws i) := fun i => Int.emod_nonneg _ (by omega)
  have HNL := Lib.hid hn
  have hpos : 1 ≤ ws.length := by omega
  clear hx hw hn
  go_enter Try.func32, Try.ntmps32
  go_wp2_with fail
  refine (SM.out w R0.out).mono ?_; rintro e w1 ⟨rfl, hb1⟩
  generalize ws.sum = T at *
  generalize hqs : qL A T ws = qs at *
  generalize hrs : rL A T ws = rs at *
  have HB1 := Lib.hid hb1
  clear hb1 hqs hrs SM
  go_wp2_with fail
  go_loopw [6, 7, 8] (fun o r i wr => ∃ (k co cr : Nat) (ao ar : Option Addr), k ≤ ws.length ∧ o = .slice ao k co ∧ r = .slice ar k cr ∧ i = .int .i64 k ∧ Hid (wr.ownsRow w.heap.size 2 1 (.slice ao k co) k ((qs.take k).map (Value.int .i64))) ∧ Hid (wr.ownsRow w.heap.size 2 1 (.slice ar k cr) k ((rs.take k).map (Value.int .i64))) ∧ Hid (Sep (.slice ao k co) (.slice ar k cr)) ∧ Hid (Below w.heap.size w wr)) (fun _ _ i _ => ws.length - (intOf i).toNat)
  case atStart =>
    refine ⟨0, 0, 0, some ⟨w1.heap.size, 0, none⟩, some ⟨w1.heap.size + 1, 0, none⟩, Nat.zero_le _, rfl, rfl, rfl, ?_, ?_, ?_, bl HB1.out (bl (b0 _ _) (b0 _ _))⟩
    · exact own_below (World.ownsRow_made w1 #[] 0 HB1.out.size (by unfold maxLen; omega) rfl) (b0 _ _)
    · exact made_next w1 _ w.heap.size HB1.out.size
    · intro k e1 e2
      simp [Value.ownBlock] at e1 e2; omega
  case round =>
    obtain ⟨k, co, cr, ao, ar, hk, rfl, rfl, rfl, HO, HR, HS, HB⟩ := hrel
    by_cases hlt : k < ws.length
    · have HCK : Hid (∀ w', Below w.heap.size w w' → w'.cell? ⟨b, off + k, none⟩ = some (.int .i64 (ws.getD k 0))) := fun w' h => (h.cell (p := ⟨b, off + k, none⟩) hbl).trans (HX.out k hlt)
      have hck := HCK.out _ HB.out
      obtain ⟨g1, g2⟩ := WG.out k hlt
      have Q1 := Lib.hid (QT.out k hlt)
      have Q2 := Lib.hid (RT.out k hlt)
      generalize ws.getD k 0 = x at *
      have hki : (k : Int) < (ws.length : Int) := by omega
      have hk0 : (0 : Int) ≤ (k : Int) := by omega
      have p0 : 0 ≤ A * x ∧ A * x ≤ 1000000000000000000 := ⟨Int.mul_nonneg a0 g1, by have := Int.mul_le_mul a1 g2 g1 (by omega); omega⟩
      obtain ⟨p0, p1⟩ := p0
      go_wp2_with (at_builtin; refine wpList_append_own_at _ rfl _ _ 22 rfl w.heap.size 2 iT (.int .i64 0) 1 8 Try.underlying22 hi hz0 hz1 hz2 rfl (by decide) _ _ _ rfl (HO.out.alloc _) ⟨wr.heap.size, 0, none⟩ 1 1 [.int .i64 (A * x / T)] rfl rfl ?c1 ?c2 ?c3 ?c4 ?c5 ?c6)
      case c1 =>
        intro j u hj; match j, hj with | 0, hj => simp at hj; subst hj; simp [Addr.add]
      case c2 => intro u hu; simp at hu; subst hu; rfl
      case c3 => unfold maxLen; omega
      case c4 => omega
      case c5 => have := HB.out.size; simp; omega
      intro v1 w2 hown1 hg1 _ hat1
      obtain ⟨ao', co', rfl⟩ := own_shape hown1
      obtain ⟨tr1, tr2⟩ := two_rows HO.out HR.out HS.out hg1 hat1
      have HO2 := Lib.hid hown1
      have HR2 := Lib.hid tr1
      have HS2 := Lib.hid tr2
      have HB2 := Lib.hid (app_step HB.out HB.out.size HO.out hg1).1
      have hck := HCK.out _ HB2.out
      clear hown1 hg1 hat1 tr1 tr2 HO HR HS HB
      go_wp2_with (at_builtin; refine wpList_append_own_at _ rfl _ _ 22 rfl w.heap.size 2 iT (.int .i64 0) 1 8 Try.underlying22 hi hz0 hz1 hz2 rfl (by decide) _ _ _ rfl (HR2.out.alloc _) ⟨w2.heap.size, 0, none⟩ 1 1 [.int .i64 (A * x % T)] rfl rfl ?d1 ?d2 ?d3 ?d4 ?d5 ?d6)
      case d1 =>
        intro j u hj; match j, hj with | 0, hj => simp at hj; subst hj; simp [Addr.add]
      case d2 => intro u hu; simp at hu; subst hu; rfl
      case d3 => unfold maxLen; omega
      case d4 => omega
      case d5 => have := HB2.out.size; simp; omega
      intro v2 w3 hown2 hg2 _ hat2
      obtain ⟨ar', cr', rfl⟩ := own_shape hown2
      obtain ⟨tr1, tr2⟩ := two_rows HR2.out HO2.out (fun k e1 e2 => HS2.out k e2 e1) hg2 hat2
      have HO3 := Lib.hid tr1
      have HR3 := Lib.hid hown2
      have HS3 : Hid (Sep (.slice ao' (k + 1) co') (.slice ar' (k + 1) cr')) := fun k e1 e2 => tr2 k e2 e1
      have HB3 := Lib.hid (app_step HB2.out HB2.out.size HR2.out hg2).1
      clear hown2 hg2 hat2 tr1 tr2 HO2 HR2 HS2 HB2
      go_wp2
      go_roundw
      case rel => exact ⟨k + 1, co', cr', ao', ar', by omega, rfl, rfl, by go_num, by show World.ownsRow _ _ _ _ _ _ _; rw [Q1.out, List.map_append, List.map_take]; exact HO3.out, by show World.ownsRow _ _ _ _ _ _ _; rw [Q2.out, List.map_append, List.map_take]; exact HR3.out, HS3.out, HB3.out⟩
      case measure => simp [intOf]; omega
    · obtain rfl : k = ws.length := by omega
      have HO1 : Hid (wr.ownsRow w.heap.size 2 1 (.slice ao ws.length co) ws.length (qs.map (Value.int .i64))) := by have := HO.out; rw [List.take_of_length_le (by rw [HLQ.out]; exact Nat.le_refl _)] at this; exact this
      have HR1 : Hid (wr.ownsRow w.heap.size 2 1 (.slice ar ws.length cr) ws.length (rs.map (Value.int .i64))) := by have := HR.out; rw [List.take_of_length_le (by rw [HLR.out]; exact Nat.le_refl _)] at this; exact this
      obtain ⟨go, rfl⟩ := own_addr HO1.out hpos
      obtain ⟨gr, rfl⟩ := own_addr HR1.out hpos
      have hgg : go ≠ gr := fun e => HS.out go rfl (by rw [e]; rfl)
      have RQ := Lib.hid (sl_of_own HO1.out (by rw [HLQ.out]; omega)).rd
      clear HO HR HS
      go_wp2_with fail
      refine (SMQ.out _ wr RQ.out).mono ?_; rintro e w2 ⟨rfl, hb2⟩
      have HB2 := Lib.hid (bl HB.out hb2)
      have HO2 := Lib.hid (own_below HO1.out hb2)
      have HR2 := Lib.hid (own_below HR1.out hb2)
      clear hb2 HB HO1 HR1 RQ SMQ
      have BD0 : Hid (∀ i, i < ws.length → 0 ≤ qs.getD i 0 ∧ qs.getD i 0 ≤ 1000000000 + (0 : Nat)) := fun i hi => by have := WQB.out i (by rw [HLQ.out]; exact hi); exact ⟨this.1, by omega⟩
      go_wp2_with fail
      go_loopw [9] (fun vl wr => ∃ (l k : Nat) (os rr : List Int), vl = .int .i64 l ∧ l ≤ L ∧ Hid (l + k = L) ∧ Hid (os.length = ws.length) ∧ Hid (rr.length = ws.length) ∧ Hid (wr.ownsRow w.heap.size 2 1 (.slice (some ⟨go, 0, none⟩) ws.length co) ws.length (os.map (Value.int .i64))) ∧ Hid (wr.ownsRow w.heap.size 2 1 (.slice (some ⟨gr, 0, none⟩) ws.length cr) ws.length (rr.map (Value.int .i64))) ∧ Hid (Below w.heap.size w wr) ∧ Hid (∀ i, i < ws.length → 0 ≤ os.getD i 0 ∧ os.getD i 0 ≤ 1000000000 + k) ∧ Hid (∀ d, Valid A T ws n d → os = outK qs d k ∧ rr = resK rs d k)) (fun vl _ => (intOf vl).toNat)
      case atStart => exact ⟨L, 0, qs, rs, rfl, Nat.le_refl _, rfl, HLQ.out, HLR.out, HO2.out, HR2.out, HB2.out, BD0.out, fun d _ => ⟨rfl, rfl⟩⟩
      case round =>
        clear HO2 HR2 HB2 BD0
        obtain ⟨l, k, os, rr, rfl, hl, HK, LO, LR, HO, HR, HB, BD, HV⟩ := hrel
        by_cases hl0 : 0 < l
        · have hlz : (0 : Int) < (l : Int) := by omega
          go_wp2_with fail
          go_loopw [10, 11] (fun vb vi wx => ∃ bb i q : Nat, vb = .int .i64 bb ∧ vi = .int .i64 i ∧ bb < ws.length ∧ i ≤ ws.length ∧ bb ≤ i ∧ Hid (Scan rr bb i) ∧ wx = wr.drewN q) (fun _ vi _ => ws.length - (intOf vi).toNat)
          case atStart => exact ⟨0, 0, 0, by go_num, by go_num, hpos, Nat.zero_le _, Nat.le_refl _, ⟨fun j hj => by omega, fun j hj => by omega⟩, rfl⟩
          case round =>
            obtain ⟨bb, i, q, rfl, rfl, h1, h2, h3, SC, rfl⟩ := hrel
            by_cases hin : i < ws.length
            · have ci : wr.cell? ⟨gr, i, none⟩ = some (.int .i64 (rr.getD i 0)) := by
                rw [HR.out.cellAt i (by omega), List.getElem?_map]
                have := LR.out
                simp [List.getD, this, hin]
              have cb : wr.cell? ⟨gr, bb, none⟩ = some (.int .i64 (rr.getD bb 0)) := by
                rw [HR.out.cellAt bb (by omega), List.getElem?_map]
                have := LR.out
                simp [List.getD, this, h1]
              have z1 : (i : Int) < (ws.length : Int) := by omega
              have z2 : (0 : Int) ≤ (i : Int) := by omega
              have z3 : (bb : Int) < (ws.length : Int) := by omega
              have z4 : (0 : Int) ≤ (bb : Int) := by omega
              by_cases hg : rr.getD bb 0 < rr.getD i 0
              · have SC2 := Lib.hid (scan_take SC.out h3 hg)
                generalize rr.getD i 0 = x at *
                generalize rr.getD bb 0 = y at *
                go_wp2_with fail
                go_quiet (fail)
                go_wp2
                go_roundw
                case rel => exact ⟨i, i + 1, _, rfl, by go_num, hin, by omega, by omega, SC2.out, by first | rfl | exact World.drewN_drewN ..⟩
                case measure => simp [intOf]; omega
              · have SC2 := Lib.hid (scan_keep SC.out hg)
                generalize rr.getD i 0 = x at *
                generalize rr.getD bb 0 = y at *
                go_wp2_with fail
                go_quiet (fail)
                go_wp2
                go_roundw
                case rel => exact ⟨bb, i + 1, _, rfl, by go_num, h1, by omega, by omega, SC2.out, by first | rfl | exact World.drewN_drewN ..⟩
                case measure => simp [intOf]; omega
            · obtain rfl : i = ws.length := by omega
              have z1 : ¬ ((ws.length : Int) < (ws.length : Int)) := by omega
              have z3 : (bb : Int) < (ws.length : Int) := by omega
              have z4 : (0 : Int) ≤ (bb : Int) := by omega
              have FM : Hid (FirstMax rr bb) := ⟨by rw [LR.out]; exact h1, fun j hj => SC.out.1 j (by rw [← LR.out]; exact hj), SC.out.2⟩
              have HO3 := Lib.hid (own_below HO.out (bd wr q))
              have HR3 := Lib.hid (own_below HR.out (bd wr q))
              have HB3 := Lib.hid (bl HB.out (bd wr q))
              obtain ⟨t1, t2⟩ := BD.out bb h1
              have hkL : k ≤ L := by have := HK.out; omega
              generalize wr.drewN q = w3 at *
              have hco : w3.cell? ⟨go, bb, none⟩ = some (.int .i64 (os.getD bb 0)) := by
                rw [HO3.out.cellAt bb (by omega), List.getElem?_map]
                have := LO.out
                simp [List.getD, this, h1]
              have hfo := HO3.out.frozenAt bb
              have hgo : go < w3.heap.size := (HO3.out.lt go rfl).2
              have hgr : gr < w3.heap.size := (HR3.out.lt gr rfl).2
              obtain ⟨s1, g1⟩ := HO3.out.stored bb (.int .i64 (os.getD bb 0 + 1))
              have HR4 := Lib.hid (own_grown HR3.out g1 (fun k e1 e2 => by injection e1 with e1; simp [Value.ownBlock] at e2; omega))
              have hcr : (w3.setCell ⟨go, bb, none⟩ (.int .i64 (os.getD bb 0 + 1))).cell? ⟨gr, bb, none⟩ = some (.int .i64 (rr.getD bb 0)) := by
                rw [HR4.out.cellAt bb (by omega), List.getElem?_map]
                have := LR.out
                simp [List.getD, this, h1]
              have hfr := HR4.out.frozenAt bb
              obtain ⟨s2, g2⟩ := HR4.out.stored bb (.int .i64 (-1))
              have HO5 := Lib.hid (own_grown s1 g2 (fun k e1 e2 => by injection e1 with e1; simp [Value.ownBlock] at e2; omega))
              have HR5 := Lib.hid s2
              have HB5 := Lib.hid ((HB3.out.setCell (p := ⟨go, bb, none⟩) (HO3.out.lt go rfl).1 (.int .i64 (os.getD bb 0 + 1))).setCell (p := ⟨gr, bb, none⟩) (HR3.out.lt gr rfl).1 (.int .i64 (-1)))
              have HV5 : Hid (∀ d, Valid A T ws n d → os.set bb (os.getD bb 0 + 1) = outK qs d (k + 1) ∧ rr.set bb (-1) = resK rs d (k + 1)) := fun d hd => by
                obtain ⟨v1, v2⟩ := HV.out d hd
                have hkn : k < n + 1 := by have := HK.out; have := HNL.out; omega
                have e := pick_eq hd rs (by rw [HLR.out]; exact HNL.out) (fun i hi => RG.out i (by rw [HNL.out]; exact hi)) (fun i _ => R00.out i) k hkn bb (by rw [← v2]; exact FM.out)
                subst v1 v2
                rw [outK_succ, resK_succ, ← e]
                exact ⟨rfl, rfl⟩
              have BD5 : Hid (∀ i, i < ws.length → 0 ≤ (os.set bb (os.getD bb 0 + 1)).getD i 0 ∧ (os.set bb (os.getD bb 0 + 1)).getD i 0 ≤ 1000000000 + (k + 1 : Nat)) := fun i hi => by
                rw [getD_set _ _ _ _ (by rw [LO.out]; exact h1)]
                have := BD.out i hi
                split <;> (constructor <;> omega)
              clear s1 g1 s2 g2 HO3 HR3 HR4 HB3 HV BD HO HR HB
              obtain ⟨lp, hlp⟩ : ∃ z, z + 1 = l := ⟨l - 1, by omega⟩
              have el : (l : Int) - 1 = (lp : Int) := by omega
              have HLP : Hid (lp + (k + 1) = L) := by have := HK.out; show _ = _; omega
              have hlpb : lp ≤ L := by omega
              generalize os.getD bb 0 = x at *
              generalize rr.getD bb 0 = y at *
              go_wp2
              go_roundw
              case rel => exact ⟨lp, k + 1, os.set bb (x + 1), rr.set bb (-1), rfl, hlpb, HLP.out, by show _ = _; rw [List.length_set]; exact LO.out, by show _ = _; rw [List.length_set]; exact LR.out, by show World.ownsRow _ _ _ _ _ _ _; rw [List.map_set]; exact HO5.out, by show World.ownsRow _ _ _ _ _ _ _; rw [List.map_set]; exact HR5.out, HB5.out, BD5.out, HV5.out⟩
              case measure => simp [intOf]; omega
        · have hl1 : ¬ (0 : Int) < (l : Int) := by omega
          have HS := Lib.hid (sl_of_own (n := ws.length) (xs := os) HO.out (by rw [LO.out]; omega))
          have F : Hid (∀ d, Valid A T ws n d → os = outK qs d L) := fun d hd => by
            have h1 := HK.out
            rw [show L = k by omega]
            exact (HV.out d hd).1
          go_wp2_with fail
          go_ret
          exact FIN.out _ os _ HS.out HB.out F.out
end Go.Proofs.Ytenaeehefamdmaa.Shares
