/-
  Contracts of ClassText of both packages.
  Conditions: the slices of the class read as lists (Mem.Rd); the library's table reads (Tab).
-/
import Derived.Test.YtmngljpncglchaaDoorJoins
import Derived.Test.YtmngljpncglchaaDoorLiving
namespace Go.Proofs.YtmngljpncglchaaDoor.ClassTexts
open Go.RowKit Mem Texts TextPlain Joins
open IsClasses (has clB Cls clB_of)
set_option linter.unusedVariables false

theorem info64 : (Tryd.prog.info? 2).map (fun i => (i.zero, i.size, i.bytes)) = some (some (.int .i64 0), 1, 8) := by kernel_rfl
theorem own_one (w : World) (B : Nat) (v : Value) (e : TypeId) (h : B ≤ w.heap.size) : (w.alloc (.cells #[v] e)).ownsRow B e 1 (.slice (some ⟨w.heap.size, 0, none⟩) 1 1) 1 [v] :=
  ⟨rfl, .inr ⟨w.heap.size, 1, #[v], rfl, h, heap_alloc_new w _, Nat.le_refl _, by unfold maxLen; omega, rfl, rfl⟩⟩

/-- The number of a member's share in the text: negative if the member is dead. -/
def sgn (sh de : List Int) (i : Nat) : Int := if has de (i : Int) then - sh.getD i 0 else sh.getD i 0
def cls (sh de : List Int) (ch : Int) (k : Nat) : List Int := ch :: (List.range k).map (sgn sh de)
theorem cls_len (sh de : List Int) (ch : Int) (k : Nat) : (cls sh de ch k).length = k + 1 := by simp [cls]
theorem cls_succ (sh de : List Int) (ch : Int) (k : Nat) : cls sh de ch (k + 1) = cls sh de ch k ++ [sgn sh de k] := by simp [cls, List.range_succ]
theorem cls_within {sh de : List Int} {ch : Int} (h : Cls sh de ch) : within (-1000000000000000000) 1000000000000000000 (cls sh de ch sh.length) = true := by
  obtain ⟨_, hw, _, ⟨c1, c2⟩, _⟩ := h
  simp only [within, cls, List.all_cons, Bool.and_eq_true, decide_eq_true_eq, List.all_eq_true, List.mem_map, List.mem_range]
  refine ⟨by omega, ?_⟩
  rintro x ⟨i, hi, rfl⟩
  have g := within_get hw i hi
  unfold sgn
  split <;> omega
noncomputable def claT (sh de : List Int) (ch : Int) : List UInt8 := if clB sh de ch then joinT (cls sh de ch sh.length) else []
noncomputable def claC (sh de : List Int) (ch : Int) : Int := if clB sh de ch then 0 else 1

theorem own_two (w : World) (o : Obj) (v : Value) (e : TypeId) : ((w.alloc o).alloc (.cells #[v] e)).ownsRow (w.heap.size + 1) e 1 (.slice (some ⟨w.heap.size + 1, 0, none⟩) 1 1) 1 [v] := by
  have h := own_one (w.alloc o) (w.heap.size + 1) v e (by rw [World.size_alloc]; exact Nat.le_refl _)
  rw [World.size_alloc] at h
  exact h
theorem box3_up {w w' : World} {b : Nat} {x y z : Value} (h : Box3 w b x y z) (g : Below (b + 1) w w') : Box3 w' b x y z :=
  ⟨(g.cell (p := ⟨b, 0, none⟩) (Nat.lt_succ_self _)).trans h.1, (g.cell (p := ⟨b, 1, none⟩) (Nat.lt_succ_self _)).trans h.2.1, (g.cell (p := ⟨b, 2, none⟩) (Nat.lt_succ_self _)).trans h.2.2.1, Nat.lt_of_lt_of_le h.2.2.2 g.size⟩

set_option maxRecDepth 100000 in
set_option maxHeartbeats 2000000 in
theorem specClassText_any (ch : Int) (v1 v2 : Value) (sh de : List Int) (w : World) (h1 : Rd w v1 sh) (h2 : Rd w v2 de) :
    Calls Tryd.prog 38 #[.agg #[v1, v2, .int .i64 ch]] w fun e w' => e = .returned (.tuple #[.string (S (claT sh de ch)), .int .i64 (claC sh de ch)]) ∧ Below w.heap.size w w' := by
  obtain ⟨i0, hi, hz0, hz1, hz2⟩ := info_parts info64
  have H1 := Lib.hid (fun o => h1.below (b0 w o))
  have H2 := Lib.hid (fun o => h2.below (b0 w o))
  have HR := Lib.hid h1
  obtain ⟨a1, c1, rfl, hn1⟩ := rd_shape h1
  obtain ⟨a2, c2, rfl, hn2⟩ := rd_shape h2
  have HX := Lib.hid (box3_new w (.slice a1 sh.length c1) (.slice a2 de.length c2) (.int .i64 ch))
  clear h1 h2
  cases hk : clB sh de ch with
  | false =>
    have V : Hid (claT sh de ch = []) := by show _ = _; unfold claT; rw [hk]; rfl
    have C : Hid (claC sh de ch = 1) := by show _ = _; unfold claC; rw [hk]; rfl
    have HK := Lib.hid hk
    clear hk
    go_enter Tryd.func38, Tryd.ntmps38
    go_wp2_with fail
    refine (IsClasses.specIsClass_any _ _ _ sh de _ (H1.out _) (H2.out _)).mono ?_; rintro e w1 ⟨rfl, hb1⟩; rw [HK.out]
    obtain ⟨x1, x2, x3, x4⟩ := (HX.out _).below hb1
    go_wp2
    go_ret2
    exact ⟨by rw [V.out, C.out]; rfl, bl (b0 _ _) hb1⟩
  | true =>
    have V : Hid (claT sh de ch = joinT (cls sh de ch sh.length)) := by show _ = _; unfold claT; rw [hk]; rfl
    have C : Hid (claC sh de ch = 0) := by show _ = _; unfold claC; rw [hk]; rfl
    have HQ := Lib.hid (clB_of hk)
    have HW := Lib.hid (cls_within (clB_of hk))
    have hn := HQ.out.1
    have WG := Lib.hid (fun i hi => within_get HQ.out.2.1 i hi)
    have HK := Lib.hid hk
    clear hk
    obtain ⟨b, off, rfl, hbl, hx⟩ : ∃ b off, a1 = some ⟨b, off, none⟩ ∧ b < w.heap.size ∧ ∀ i, i < sh.length → w.cell? ⟨b, off + i, none⟩ = some (.int .i64 (sh.getD i 0)) := by
      rcases HR.out with ⟨hv, hz⟩ | ⟨b, off, cap, hv, _, _, _, hbl, hx⟩
      · rw [hz] at hn; simp at hn
      · injection hv with h1 h2 h3
        exact ⟨b, off, h1, hbl, hx⟩
    have HD := Lib.hid hx
    clear hx
    go_enter Tryd.func38, Tryd.ntmps38
    go_wp2_with fail
    refine (IsClasses.specIsClass_any _ _ _ sh de _ (H1.out _) (H2.out _)).mono ?_; rintro e w1 ⟨rfl, hb1⟩; rw [HK.out]
    have HX1 := Lib.hid ((HX.out _).below hb1)
    obtain ⟨x1, x2, x3, x4⟩ := HX1.out
    have HB1 := Lib.hid (bl (b0 _ _) hb1)
    have H2w := Lib.hid ((H2.out _).below hb1)
    clear hb1
    go_wp2_with fail
    go_loopw [4, 5] (fun o i wr => ∃ (k : Nat) (ao : Option Addr) (c : Nat), k ≤ sh.length ∧ o = .slice ao (k + 1) c ∧ i = .int .i64 k ∧ Hid (wr.ownsRow w1.heap.size 2 1 (.slice ao (k + 1) c) (k + 1) ((cls sh de ch k).map (Value.int .i64))) ∧ Hid (Below w1.heap.size w1 wr)) (fun _ i _ => sh.length - (intOf i).toNat)
    case atStart => exact ⟨0, _, _, by omega, rfl, rfl, own_one w1 w1.heap.size (.int .i64 ch) 2 (Nat.le_refl _), b0 _ _⟩
    case round =>
      obtain ⟨k, ao, c, hk, rfl, rfl, HO, HB⟩ := hrel
      obtain ⟨z1, z2, z3, z4⟩ := HX1.out.below HB.out
      by_cases hlt : k < sh.length
      · have HCK := Lib.hid (fun (w' : World) (h : Below w.heap.size w w') => Living.rd_cell (cap := c1) hbl h HD.out k hlt)
        have hg := WG.out k hlt
        have E : Hid (cls sh de ch (k + 1) = cls sh de ch k ++ [sgn sh de k]) := cls_succ sh de ch k
        have SG : Hid (sgn sh de k = if has de (k : Int) then - sh.getD k 0 else sh.getD k 0) := rfl
        generalize sh.getD k 0 = x at *
        cases hh : has de (k : Int) with
        | true =>
          have SG2 : Hid (sgn sh de k = -x) := by show _ = _; rw [SG.out, hh]; rfl
          have HH := Lib.hid hh
          clear hh
          go_wp2_with fail
          refine (IsClasses.l01Has_any _ de _ _ (H2w.out.below HB.out)).mono ?_; rintro e w2 ⟨rfl, q, rfl⟩; have hb2 := bd wr q; rw [HH.out]; generalize wr.drewN q = w2 at *
          obtain ⟨y1, y2, y3, y4⟩ := (HX1.out.below HB.out).below hb2
          have HB2 := Lib.hid (bl HB.out hb2)
          have HO2 := Lib.hid (own_below HO.out hb2)
          have hck := HCK.out _ (bl HB1.out HB2.out)
          clear hb2
          go_wp2_with (at_builtin; refine wpList_append_own _ rfl _ _ 30 rfl w1.heap.size 2 i0 (.int .i64 0) 1 8 Tryd.underlying30 hi hz0 hz1 hz2 rfl (by decide) _ _ _ rfl (HO2.out.alloc _) ⟨w2.heap.size, 0, none⟩ 1 1 [.int .i64 (-x)] rfl rfl ?c1 ?c2 ?c3 ?c4 ?c5 ?c6)
          case c1 =>
            intro j u hj; match j, hj with | 0, hj => simp at hj; subst hj; simp [Addr.add]
          case c2 => intro u hu; simp at hu; subst hu; rfl
          case c3 => unfold maxLen; omega
          case c4 => omega
          case c5 => have := HB2.out.size; simp; omega
          intro v' w9 hown' hgrow hnil'
          obtain ⟨ao', c', rfl⟩ := own_shape hown'
          have HO9 := Lib.hid hown'
          have HB9 := Lib.hid (app_step HB2.out HB2.out.size HO2.out hgrow).1
          clear hown' hgrow hnil'
          go_wp2
          go_roundw
          case rel => exact ⟨k + 1, ao', c', by omega, rfl, by go_num, by show World.ownsRow _ _ _ _ _ _ _; rw [E.out, SG2.out, List.map_append]; exact HO9.out, HB9.out⟩
          case measure => simp [intOf]; omega
        | false =>
          have SG2 : Hid (sgn sh de k = x) := by show _ = _; rw [SG.out, hh]; rfl
          have HH := Lib.hid hh
          clear hh
          go_wp2_with fail
          refine (IsClasses.l01Has_any _ de _ _ (H2w.out.below HB.out)).mono ?_; rintro e w2 ⟨rfl, q, rfl⟩; have hb2 := bd wr q; rw [HH.out]; generalize wr.drewN q = w2 at *
          obtain ⟨y1, y2, y3, y4⟩ := (HX1.out.below HB.out).below hb2
          have HB2 := Lib.hid (bl HB.out hb2)
          have HO2 := Lib.hid (own_below HO.out hb2)
          have hck := HCK.out _ (bl HB1.out HB2.out)
          clear hb2
          go_wp2_with (at_builtin; refine wpList_append_own _ rfl _ _ 30 rfl w1.heap.size 2 i0 (.int .i64 0) 1 8 Tryd.underlying30 hi hz0 hz1 hz2 rfl (by decide) _ _ _ rfl (HO2.out.alloc _) ⟨w2.heap.size, 0, none⟩ 1 1 [.int .i64 x] rfl rfl ?d1 ?d2 ?d3 ?d4 ?d5 ?d6)
          case d1 =>
            intro j u hj; match j, hj with | 0, hj => simp at hj; subst hj; simp [Addr.add]
          case d2 => intro u hu; simp at hu; subst hu; rfl
          case d3 => unfold maxLen; omega
          case d4 => omega
          case d5 => have := HB2.out.size; simp; omega
          intro v' w9 hown' hgrow hnil'
          obtain ⟨ao', c', rfl⟩ := own_shape hown'
          have HO9 := Lib.hid hown'
          have HB9 := Lib.hid (app_step HB2.out HB2.out.size HO2.out hgrow).1
          clear hown' hgrow hnil'
          go_wp2
          go_roundw
          case rel => exact ⟨k + 1, ao', c', by omega, rfl, by go_num, by show World.ownsRow _ _ _ _ _ _ _; rw [E.out, SG2.out, List.map_append]; exact HO9.out, HB9.out⟩
          case measure => simp [intOf]; omega
      · obtain rfl : k = sh.length := by omega
        have HS := Lib.hid ((sl_of_own (n := sh.length + 1) (xs := cls sh de ch sh.length) HO.out (by rw [cls_len]; omega)).rd)
        have CL := Lib.hid (cls_len sh de ch sh.length)
        have JN := Lib.hid (l01Join_any (.slice ao (sh.length + 1) c) (cls sh de ch sh.length) wr HS.out (by rw [CL.out]; omega) HW.out)
        go_wp2_with fail
        refine JN.out.mono ?_; rintro e w3 ⟨rfl, hb3⟩
        go_wp2
        go_ret2
        exact ⟨by rw [V.out, C.out]; rfl, bl (bl HB1.out HB.out) hb3⟩

set_option maxRecDepth 100000 in
set_option maxHeartbeats 2000000 in
theorem classText_any (ch : Int) (v1 v2 : Value) (sh de : List Int) (B : Nat) (w : World) (hT : Tab B w) (h1 : Rd w v1 sh) (h2 : Rd w v2 de) (hc : Cls sh de ch) :
    Calls Tryd.prog 94 #[.agg #[v1, v2, .int .i64 ch]] w fun e w' => e = .returned (.string (S (joinT (cls sh de ch sh.length)))) ∧ Below w.heap.size w w' := by
  obtain ⟨i0, hi, hz0, hz1, hz2⟩ := info_parts info64
  have H2 := Lib.hid h2
  have HT := Lib.hid hT
  have HW := Lib.hid (cls_within hc)
  have hn := hc.1
  have WG := Lib.hid (fun i hi => within_get hc.2.1 i hi)
  obtain ⟨a2, c2, rfl, hn2⟩ := rd_shape h2
  clear h2 hT hc
  rcases h1 with ⟨rfl, rfl⟩ | ⟨b, off, cap, rfl, hnn, hl, hm, hbl, hx⟩
  · simp at hn
  · have HD := Lib.hid hx
    have HX := Lib.hid (box3_new w (.slice (some ⟨b, off, none⟩) sh.length cap) (.slice a2 de.length c2) (.int .i64 ch))
    clear hx
    go_enter Tryd.func94, Tryd.ntmps94
    go_wp2_with fail
    go_loopw [3, 12] (fun o i wr => ∃ (k : Nat) (ao : Option Addr) (c : Nat), k ≤ sh.length ∧ o = .slice ao (k + 1) c ∧ i = .int .i64 k ∧ Hid (wr.ownsRow (w.heap.size + 1) 2 1 (.slice ao (k + 1) c) (k + 1) ((cls sh de ch k).map (Value.int .i64))) ∧ Hid (Below w.heap.size w wr) ∧ Hid (Box3 wr w.heap.size (.slice (some ⟨b, off, none⟩) sh.length cap) (.slice a2 de.length c2) (.int .i64 ch))) (fun _ i _ => sh.length - (intOf i).toNat)
    case atStart => exact ⟨0, _, _, by omega, rfl, rfl, (by show World.ownsRow _ _ _ _ _ _ _; exact own_two w _ _ _), (by show Below _ _ _; exact (b0 _ _).alloc (by simp) _), (HX.out _).below (b0 _ _)⟩
    case round =>
      obtain ⟨k, ao, c, hk, rfl, rfl, HO, HB, HX3⟩ := hrel
      obtain ⟨x1, x2, x3, x4⟩ := HX3.out
      by_cases hlt : k < sh.length
      · have HCK := Lib.hid (fun (w' : World) (h : Below w.heap.size w w') => Living.rd_cell (cap := cap) hbl h HD.out k hlt)
        have hck := HCK.out _ HB.out
        have hg := WG.out k hlt
        have E : Hid (cls sh de ch (k + 1) = cls sh de ch k ++ [sgn sh de k]) := cls_succ sh de ch k
        have SG : Hid (sgn sh de k = if has de (k : Int) then - sh.getD k 0 else sh.getD k 0) := rfl
        generalize sh.getD k 0 = x at *
        cases hh : has de (k : Int) with
        | true =>
          have SG2 : Hid (sgn sh de k = -x) := by show _ = _; rw [SG.out, hh]; rfl
          have HH := Lib.hid hh
          clear hh
          go_wp2_with fail
          refine (Living.isDead_any ch _ _ de _ _ (H2.out.below HB.out)).mono ?_; rintro e w2 ⟨rfl, hb2⟩; rw [HH.out]
          have HX4 := Lib.hid (HX3.out.below hb2)
          obtain ⟨y1, y2, y3, y4⟩ := HX4.out
          have HB2 := Lib.hid (bl HB.out hb2)
          have HO2 := Lib.hid (own_below HO.out hb2)
          clear hb2
          go_wp2_with (at_builtin; refine wpList_append_own _ rfl _ _ 30 rfl (w.heap.size + 1) 2 i0 (.int .i64 0) 1 8 Tryd.underlying30 hi hz0 hz1 hz2 rfl (by decide) _ _ _ rfl (HO2.out.alloc _) ⟨w2.heap.size, 0, none⟩ 1 1 [.int .i64 (-x)] rfl rfl ?c1 ?c2 ?c3 ?c4 ?c5 ?c6)
          case c1 =>
            intro j u hj; match j, hj with | 0, hj => simp at hj; subst hj; simp [Addr.add]
          case c2 => intro u hu; simp at hu; subst hu; rfl
          case c3 => unfold maxLen; omega
          case c4 => omega
          case c5 => have := HB2.out.size; simp; omega
          intro v' w9 hown' hgrow hnil'
          obtain ⟨ao', c', rfl⟩ := own_shape hown'
          have HO9 := Lib.hid hown'
          have HB9a := Lib.hid (app_step (Below.refl (w.heap.size + 1) w2) y4 HO2.out hgrow).1
          have HX9 := Lib.hid (box3_up HX4.out HB9a.out)
          have HB9 := Lib.hid (HB2.out.trans (HB9a.out.mono (Nat.le_succ _)))
          clear hown' hgrow hnil'
          go_wp2
          go_roundw
          case rel => exact ⟨k + 1, ao', c', by omega, rfl, by go_num, by show World.ownsRow _ _ _ _ _ _ _; rw [E.out, SG2.out, List.map_append]; exact HO9.out, HB9.out, HX9.out⟩
          case measure => simp [intOf]; omega
        | false =>
          have SG2 : Hid (sgn sh de k = x) := by show _ = _; rw [SG.out, hh]; rfl
          have HH := Lib.hid hh
          clear hh
          go_wp2_with fail
          refine (Living.isDead_any ch _ _ de _ _ (H2.out.below HB.out)).mono ?_; rintro e w2 ⟨rfl, hb2⟩; rw [HH.out]
          have HX4 := Lib.hid (HX3.out.below hb2)
          obtain ⟨y1, y2, y3, y4⟩ := HX4.out
          have HB2 := Lib.hid (bl HB.out hb2)
          have HO2 := Lib.hid (own_below HO.out hb2)
          clear hb2
          go_wp2_with (at_builtin; refine wpList_append_own _ rfl _ _ 30 rfl (w.heap.size + 1) 2 i0 (.int .i64 0) 1 8 Tryd.underlying30 hi hz0 hz1 hz2 rfl (by decide) _ _ _ rfl (HO2.out.alloc _) ⟨w2.heap.size, 0, none⟩ 1 1 [.int .i64 x] rfl rfl ?d1 ?d2 ?d3 ?d4 ?d5 ?d6)
          case d1 =>
            intro j u hj; match j, hj with | 0, hj => simp at hj; subst hj; simp [Addr.add]
          case d2 => intro u hu; simp at hu; subst hu; rfl
          case d3 => unfold maxLen; omega
          case d4 => omega
          case d5 => have := HB2.out.size; simp; omega
          intro v' w9 hown' hgrow hnil'
          obtain ⟨ao', c', rfl⟩ := own_shape hown'
          have HO9 := Lib.hid hown'
          have HB9a := Lib.hid (app_step (Below.refl (w.heap.size + 1) w2) y4 HO2.out hgrow).1
          have HX9 := Lib.hid (box3_up HX4.out HB9a.out)
          have HB9 := Lib.hid (HB2.out.trans (HB9a.out.mono (Nat.le_succ _)))
          clear hown' hgrow hnil'
          go_wp2
          go_roundw
          case rel => exact ⟨k + 1, ao', c', by omega, rfl, by go_num, by show World.ownsRow _ _ _ _ _ _ _; rw [E.out, SG2.out, List.map_append]; exact HO9.out, HB9.out, HX9.out⟩
          case measure => simp [intOf]; omega
      · obtain rfl : k = sh.length := by omega
        have HS := Lib.hid ((sl_of_own (n := sh.length + 1) (xs := cls sh de ch sh.length) HO.out (by rw [cls_len]; omega)).rd)
        have CL := Lib.hid (cls_len sh de ch sh.length)
        have JN := Lib.hid (joined_any (.slice ao (sh.length + 1) c) (cls sh de ch sh.length) B wr (HT.out.below HB.out) HS.out (by rw [CL.out]; omega) HW.out)
        go_wp2_with fail
        refine JN.out.mono ?_; rintro e w3 ⟨rfl, hb3⟩
        go_wp2
        go_ret
        exact ⟨rfl, bl HB.out hb3⟩

set_option maxRecDepth 100000 in
set_option maxHeartbeats 2000000 in
theorem implClassText_any (ch : Int) (v1 v2 : Value) (sh de : List Int) (B : Nat) (w : World) (hT : Tab B w) (h1 : Rd w v1 sh) (h2 : Rd w v2 de) :
    Calls Tryd.prog 40 #[.agg #[v1, v2, .int .i64 ch]] w fun e w' => e = .returned (.tuple #[.string (S (claT sh de ch)), .int .i64 (claC sh de ch)]) ∧ Below w.heap.size w w' := by
  have H1 := Lib.hid (fun o => h1.below (b0 w o))
  have H2 := Lib.hid (fun o => h2.below (b0 w o))
  have HT := Lib.hid hT
  obtain ⟨a1, c1, rfl, hn1⟩ := rd_shape h1
  obtain ⟨a2, c2, rfl, hn2⟩ := rd_shape h2
  have HX := Lib.hid (box3_new w (.slice a1 sh.length c1) (.slice a2 de.length c2) (.int .i64 ch))
  clear h1 h2 hT
  cases hk : clB sh de ch with
  | false =>
    have V : Hid (claT sh de ch = []) := by show _ = _; unfold claT; rw [hk]; rfl
    have C : Hid (claC sh de ch = 1) := by show _ = _; unfold claC; rw [hk]; rfl
    have HK := Lib.hid hk
    clear hk
    go_enter Tryd.func40, Tryd.ntmps40
    go_wp2_with fail
    refine (IsClasses.implIsClass_any _ _ _ sh de _ (H1.out _) (H2.out _)).mono ?_; rintro e w1 ⟨rfl, hb1⟩; rw [HK.out]
    obtain ⟨x1, x2, x3, x4⟩ := (HX.out _).below hb1
    go_wp2
    go_ret2
    exact ⟨by rw [V.out, C.out]; rfl, bl (b0 _ _) hb1⟩
  | true =>
    have V : Hid (claT sh de ch = joinT (cls sh de ch sh.length)) := by show _ = _; unfold claT; rw [hk]; rfl
    have C : Hid (claC sh de ch = 0) := by show _ = _; unfold claC; rw [hk]; rfl
    have HQ := Lib.hid (clB_of hk)
    have HK := Lib.hid hk
    clear hk
    go_enter Tryd.func40, Tryd.ntmps40
    go_wp2_with fail
    refine (IsClasses.implIsClass_any _ _ _ sh de _ (H1.out _) (H2.out _)).mono ?_; rintro e w1 ⟨rfl, hb1⟩; rw [HK.out]
    obtain ⟨x1, x2, x3, x4⟩ := (HX.out _).below hb1
    go_wp2_with fail
    refine (classText_any ch _ _ sh de B _ (HT.out.below (bl (b0 _ _) hb1)) ((H1.out _).below hb1) ((H2.out _).below hb1) HQ.out).mono ?_; rintro e w2 ⟨rfl, hb2⟩
    go_wp2
    go_ret2
    exact ⟨by rw [V.out, C.out]; rfl, bl (bl (b0 _ _) hb1) hb2⟩

end Go.Proofs.YtmngljpncglchaaDoor.ClassTexts
