/-
  Contracts of SickText of both packages.
  Conditions: the slice of the table reads as a list (Mem.Rd); the library's table reads (Tab).
-/
import Derived.Test.YtmngljpncglchaaDoorJoins
import Derived.Test.YtmngljpncglchaaDoorSickTables
import Derived.Deep.RegionHeld3
namespace Go.Proofs.YtmngljpncglchaaDoor.SickTexts
open Go.RowKit Mem Texts TextPlain Joins
set_option linter.unusedVariables false

theorem info64 : (Tryd.prog.info? 2).map (fun i => (i.zero, i.size, i.bytes)) = some (some (.int .i64 0), 1, 8) := by kernel_rfl
theorem own_one (w : World) (B : Nat) (v : Value) (e : TypeId) (h : B ≤ w.heap.size) : (w.alloc (.cells #[v] e)).ownsRow B e 1 (.slice (some ⟨w.heap.size, 0, none⟩) 1 1) 1 [v] :=
  ⟨rfl, .inr ⟨w.heap.size, 1, #[v], rfl, h, heap_alloc_new w _, Nat.le_refl _, by unfold maxLen; omega, rfl, rfl⟩⟩

theorem sick_within {f : Int} {xs : List Int} (h : SickTables.skB f xs = true) : 1 ≤ xs.length ∧ xs.length ≤ 120 ∧ 0 ≤ f ∧ f ≤ 100 ∧ within (-1000000000000000000) 1000000000000000000 xs = true := by
  obtain ⟨⟨f1, f2⟩, ⟨n1, n2⟩, hw⟩ := SickTables.skB_of h
  refine ⟨n1, n2, f1, f2, ?_⟩
  simp only [within, List.all_eq_true, decide_eq_true_eq] at hw ⊢
  intro x hx
  have := hw x hx
  omega
theorem cons_within {f : Int} {xs : List Int} (h0 : 0 ≤ f) (h1 : f ≤ 100) (h : within (-1000000000000000000) 1000000000000000000 xs = true) : within (-1000000000000000000) 1000000000000000000 (f :: xs) = true := by
  simp only [within, List.all_cons, Bool.and_eq_true, decide_eq_true_eq] at h ⊢
  exact ⟨by omega, h⟩

noncomputable def sickT (f : Int) (xs : List Int) : List UInt8 := if SickTables.skB f xs then joinT (f :: xs) else []

set_option maxRecDepth 100000 in
set_option maxHeartbeats 1000000 in
theorem specSickText_any (f : Int) (v : Value) (xs : List Int) (w : World) (h : Rd w v xs) :
    Calls Tryd.prog 33 #[.agg #[.int .i64 f, v]] w fun e w' => e = .returned (.string (S (sickT f xs))) ∧ Below w.heap.size w w' := by
  obtain ⟨i0, hi, hz0, hz1, hz2⟩ := info_parts info64
  have H := Lib.hid h
  obtain ⟨a, c, rfl, hn⟩ := rd_shape h
  have HX := Lib.hid (box2_new w (.int .i64 f) (.slice a xs.length c))
  cases hk : SickTables.skB f xs with
  | false =>
    have V : Hid (sickT f xs = []) := by show _ = _; unfold sickT; rw [hk]; rfl
    have HK := Lib.hid hk
    clear hk h
    go_enter Tryd.func33, Tryd.ntmps33
    go_wp2_with fail
    refine (SickTables.specIsSickTable_any _ _ xs _ (H.out.below (b0 _ _))).mono ?_; rintro e w1 ⟨rfl, hb1⟩; rw [HK.out]
    obtain ⟨x1, x2, x3⟩ := (HX.out _).below hb1
    go_wp2
    go_ret
    exact ⟨Base.ret_string (by rw [V.out]; rfl), bl (b0 _ _) hb1⟩
  | true =>
    have V : Hid (sickT f xs = joinT (f :: xs)) := by show _ = _; unfold sickT; rw [hk]; rfl
    obtain ⟨n1, n2, f1, f2, hw⟩ := sick_within hk
    have HW := Lib.hid (cons_within f1 f2 hw)
    have HK := Lib.hid hk
    clear hk hw
    obtain ⟨b, off, rfl, hbl, hx⟩ : ∃ b off, a = some ⟨b, off, none⟩ ∧ b < w.heap.size ∧ ∀ i, i < xs.length → w.cell? ⟨b, off + i, none⟩ = some (.int .i64 (xs.getD i 0)) := by
      rcases h with ⟨hv, hz⟩ | ⟨b, off, cap, hv, _, _, _, hbl, hx⟩
      · rw [hz] at n1; simp at n1
      · injection hv with h1 h2 h3
        exact ⟨b, off, h1, hbl, hx⟩
    have HD := Lib.hid hx
    clear h hx
    go_enter Tryd.func33, Tryd.ntmps33
    go_wp2_with fail
    refine (SickTables.specIsSickTable_any _ _ xs _ (H.out.below (b0 _ _))).mono ?_; rintro e w1 ⟨rfl, hb1⟩; rw [HK.out]
    obtain ⟨x1, x2, x3⟩ := (HX.out _).below hb1
    have HB1 := Lib.hid (bl (b0 _ _) hb1)
    clear hb1
    go_wp2_with (at_builtin; refine wpList_append_own _ rfl _ _ 30 rfl w1.heap.size 2 i0 (.int .i64 0) 1 8 Tryd.underlying30 hi hz0 hz1 hz2 rfl (by decide) _ _ _ rfl (own_one w1 w1.heap.size (.int .i64 f) 2 (Nat.le_refl _)) ⟨b, off, none⟩ xs.length c (xs.map (Value.int .i64)) rfl (by simp) ?c1 ?c2 ?c3 ?c4 ?c5 ?c6)
    case c1 =>
      intro j u hj
      have hj2 : j < xs.length := by
        have := (List.getElem?_eq_some_iff.1 hj).1
        simpa using this
      rw [List.getElem?_map, List.getElem?_eq_getElem hj2] at hj
      have hj3 : Value.int .i64 xs[j] = u := by simpa using hj
      rw [show (⟨b, off, none⟩ : Addr).add j = ⟨b, off + j, none⟩ from by by_cases e : j = 0 <;> simp [Addr.add, e]]
      rw [← hj3, ← getD_lt hj2]
      exact ((bl HB1.out (b0 w1 _)).cell (p := ⟨b, off + j, none⟩) hbl).trans (HD.out j hj2)
    case c2 =>
      intro u hu
      obtain ⟨x, _, rfl⟩ := List.mem_map.1 hu
      rfl
    case c3 => unfold maxLen; omega
    case c4 => omega
    case c5 => simp
    intro v' w9 hown' hgrow hnil'
    obtain ⟨ao', c', rfl⟩ := own_shape hown'
    have HB9 := Lib.hid ((HB1.out.alloc HB1.out.size (.cells #[.int .i64 f] 2)).grown hgrow (by simp; have := HB1.out.size; omega) (fun k hk => (Option.some.inj hk) ▸ HB1.out.size))
    have HR9 : Hid (Rd w9 (.slice ao' (1 + xs.length) c') (f :: xs)) := (sl_of_own (n := 1 + xs.length) (xs := f :: xs) hown' (by simp; omega)).rd
    clear hown' hgrow hnil'
    have JN := Lib.hid (l01Join_any _ (f :: xs) w9 HR9.out (by simp; omega) HW.out)
    go_wp2_with fail
    refine JN.out.mono ?_; rintro e w10 ⟨rfl, hb⟩
    go_wp2
    go_ret
    exact ⟨Base.ret_string (by rw [V.out]), bl HB9.out hb⟩

set_option maxRecDepth 100000 in
set_option maxHeartbeats 1000000 in
theorem implSickText_any (f : Int) (v : Value) (xs : List Int) (B : Nat) (w : World) (hT : Tab B w) (h : Rd w v xs) :
    Calls Tryd.prog 35 #[.agg #[.int .i64 f, v]] w fun e w' => e = .returned (.string (S (sickT f xs))) ∧ Below w.heap.size w w' := by
  have H := Lib.hid h
  have HT := Lib.hid hT
  obtain ⟨a, c, rfl, hn⟩ := rd_shape h
  have HX := Lib.hid (box2_new w (.int .i64 f) (.slice a xs.length c))
  clear h hT
  cases hk : SickTables.skB f xs with
  | false =>
    have V : Hid (sickT f xs = []) := by show _ = _; unfold sickT; rw [hk]; rfl
    have HK := Lib.hid hk
    clear hk
    go_enter Tryd.func35, Tryd.ntmps35
    go_wp2_with fail
    refine (SickTables.implIsSickTable_any _ _ xs _ (H.out.below (b0 _ _))).mono ?_; rintro e w1 ⟨rfl, hb1⟩; rw [HK.out]
    obtain ⟨x1, x2, x3⟩ := (HX.out _).below hb1
    go_wp2
    go_ret
    exact ⟨Base.ret_string (by rw [V.out]; rfl), bl (b0 _ _) hb1⟩
  | true =>
    obtain ⟨n1, n2, f1, f2, hw⟩ := sick_within hk
    have V : Hid (sickT f xs = Lib.itoa f ++ [32] ++ joinT xs) := by
      show _ = _; unfold sickT; rw [hk, if_pos rfl, joinT_cons f xs (by intro e; rw [e] at n1; simp at n1)]
    have HW := Lib.hid hw
    have HK := Lib.hid hk
    have CD := Lib.hid (fun w hT => decimal_any f B w hT (by omega) (by omega))
    have CJ := Lib.hid (fun w hT h => joined_any (.slice a xs.length c) xs B w hT h (by omega) hw)
    have l1 := itoa_len f (by omega) (by omega)
    have l2 := joinT_len xs hw xs.length (Nat.le_refl _)
    rw [List.take_length] at l2
    clear hk hw
    generalize sickT f xs = tt at *
    generalize Lib.itoa f = t1 at *
    generalize joinT xs = t2 at *
    obtain ⟨z1, Z1, k1, A1⟩ := cat 100 (S t1) ⟨#[32]⟩ t1 [32] rfl rfl (by simp; omega) (by omega)
    obtain ⟨z2, Z2, k2, A2⟩ := cat 100000 (S z1) (S t2) z1 t2 rfl rfl (by omega) (by omega)
    go_enter Tryd.func35, Tryd.ntmps35
    go_wp2_with fail
    refine (SickTables.implIsSickTable_any _ _ xs _ (H.out.below (b0 _ _))).mono ?_; rintro e w1 ⟨rfl, hb1⟩; rw [HK.out]
    have HX1 := Lib.hid ((HX.out _).below hb1)
    obtain ⟨x1, x2, x3⟩ := HX1.out
    have HB1 := Lib.hid (bl (b0 _ _) hb1)
    clear hb1 l1 l2 k1 k2
    go_wp2_with fail
    go_region_held3 (fun w' => w'.cell? ⟨w.heap.size, 0, none⟩ = some (.int .i64 f) ∧ w'.cell? ⟨w.heap.size, 1, none⟩ = some (.slice a xs.length c)) (go_keep)
      (first | (go_at_call 69; refine (CD.out _ (HT.out.below HB1.out.drew)).mono ?_; rintro e w2 ⟨rfl, hb2d⟩; have hb2 := undrew hb2d; have HB2 := Lib.hid (bl HB1.out hb2); obtain ⟨y1, y2, y3⟩ := HX1.out.below hb2) | (go_at_call 87; refine (CJ.out _ (HT.out.below HB2.out) (H.out.below HB2.out)).mono ?_; rintro e w3 ⟨rfl, hb3⟩; have HB3 := Lib.hid (bl HB2.out hb3); obtain ⟨u1, u2, u3⟩ := Box2.below ⟨y1, y2, y3⟩ hb3))
    go_wp2
    go_ret
    exact ⟨Base.ret_string (by rw [V.out, Z2.out, Z1.out]), HB3.out⟩

end Go.Proofs.YtmngljpncglchaaDoor.SickTexts
