/-
  Contracts of MakeTable of both packages.
  Conditions: the slice of the rates reads as a list (Mem.Rd).
-/
import Derived.Test.YtochnbljjlloiaaMakePlain
import Derived.Test.YtochnbljjlloiaaLists
import Derived.Test.YtochnbljjlloiaaRound
import Derived.Test.YtochnbljjlloiaaMarks
import Derived.Handy
namespace Go.Proofs.Ytochnbljjlloiaa.Makes
open Go.RowKit Mem MakePlain
set_option linter.unusedVariables false

theorem info64 : (Try.prog.info? 2).map (fun i => (i.zero, i.size, i.bytes)) = some (some (.int .i64 0), 1, 8) := by kernel_rfl
theorem own_ne {w : World} {B e e' n q : Nat} {v : Value} {xs : List Value} {c : Array Value} {z : Nat × Nat} (h : w.ownsRow B e 1 v n xs) (hb : w.heap[q]? = some (.cells c e' z)) (he : e ≠ e') : v.ownBlock ≠ some q := by
  rcases h.2 with ⟨rfl, _⟩ | ⟨g, cap, cur, rfl, hg, hh, _⟩
  · simp [Value.ownBlock]
  · intro k
    simp [Value.ownBlock] at k
    subst k
    rw [hh] at hb
    injection hb with hb
    injection hb with h1 h2 h3
    exact he h2
theorem app_block {w w1 : World} {B e n q : Nat} {v : Value} {xs : List Value} {o o' : Obj} (hown : w.ownsRow B e 1 v n xs) (hg : (w.alloc o).grownBy w1 v.ownBlock) (hne : v.ownBlock ≠ some q) (hq : w.heap[q]? = some o') : w1.heap[q]? = some o' := by
  have hlt := lt_of_get hq
  exact (hg.block q (by simp; omega) (fun e => hne e.symm)).trans ((b0 w o).block q hlt |>.trans hq)
theorem own_set {w : World} {B e n q o : Nat} {v x : Value} {xs : List Value} (h : w.ownsRow B e 1 v n xs) (hne : v.ownBlock ≠ some q) : (w.setCell ⟨q, o, none⟩ x).ownsRow B e 1 v n xs :=
  h.kept (Marks.gset w q o x) (.inr hne)
/-- A struct of a number and a list that grows, in block q. -/
def Growing (B q : Nat) (w1 wr : World) (f : Int) (v : Value) (n : Nat) (ys : List Int) : Prop :=
  wr.heap[q]? = some (.cells #[.int .i64 f, v] 27 (0, 0)) ∧ wr.ownsRow B 2 1 v n (ys.map (Value.int .i64)) ∧ Below B w1 wr ∧ B ≤ wr.heap.size
theorem sl_nil (w : World) (B : Nat) : Sl w B (.slice none 0 0) [] := .inl ⟨rfl, rfl⟩
theorem own_one (w : World) (B : Nat) (v : Value) (e : TypeId) (h : B ≤ w.heap.size) : (w.alloc (.cells #[v] e)).ownsRow B e 1 (.slice (some ⟨w.heap.size, 0, none⟩) 1 1) 1 [v] :=
  ⟨rfl, .inr ⟨w.heap.size, 1, #[v], rfl, h, heap_alloc_new w _, Nat.le_refl _, by unfold maxLen; omega, rfl, rfl⟩⟩
theorem growing_new (w1 : World) (f l : Int) : Growing w1.heap.size (w1.heap.size + 1) w1 ((w1.alloc (.cells #[.int .i64 l] 2)).alloc (.cells #[.int .i64 f, .slice (some ⟨w1.heap.size, 0, none⟩) 1 1] 27)) f (.slice (some ⟨w1.heap.size, 0, none⟩) 1 1) 1 [l] := by
  refine ⟨?_, (own_one w1 w1.heap.size (.int .i64 l) 2 (Nat.le_refl _)).alloc _, (b0 w1 _).alloc (by simp) _, by simp; omega⟩
  have := heap_alloc_new (w1.alloc (.cells #[.int .i64 l] 2)) (.cells #[.int .i64 f, .slice (some ⟨w1.heap.size, 0, none⟩) 1 1] 27)
  simpa using this
theorem growing_app {B q : Nat} {w1 wr w9 : World} {f y : Int} {v v' : Value} {n n' : Nat} {ys : List Int} (h : Growing B q w1 wr f v n ys) (hq : B ≤ q) (hg : (wr.alloc (.cells #[.int .i64 y] 2)).grownBy w9 v.ownBlock) (ho : w9.ownsRow B 2 1 v' n' (ys.map (Value.int .i64) ++ [.int .i64 y])) :
    w9.heap[q]? = some (.cells #[.int .i64 f, v] 27 (0, 0)) ∧ Growing B q w1 (w9.setCell ⟨q, 1, none⟩ v') f v' n' (ys ++ [y]) := by
  obtain ⟨h1, h2, h3, h4⟩ := h
  have hne := own_ne h2 h1 (by decide)
  have h9 := app_block h2 hg hne h1
  have hst := app_step h3 h4 h2 hg
  refine ⟨h9, heap_setCell_same w9 q 1 _ _ v' h9, ?_, hst.1.setCell (by exact hq) _, by simpa using hst.2⟩
  rw [List.map_append]
  exact own_set ho (own_ne ho h9 (by decide))

theorem hlenle {w : World} {B n : Nat} {v : Value} {ys : List Int} (h : w.ownsRow B 2 1 v n (ys.map (Value.int .i64))) : ys.length = n := by have := h.1; simpa using this
--SPEC
set_option maxHeartbeats 2000000 in
set_option maxRecDepth 1000000 in
theorem specMakeTable_no (f l : Int) (v : Value) (rs : List Int) (w : World) (h : Rd w v rs) (hok : mkOk f l rs = false) (p0 : -9223372036854775808 ≤ f) (p1 : f ≤ 9223372036854775807) (p2 : -9223372036854775808 ≤ l) (p3 : l ≤ 9223372036854775807) :
    Calls Try.prog 43 #[.int .i64 f, .int .i64 l, v] w (MtRes f l rs w) := by
  obtain ⟨i0, hi, hz0, hz1, hz2⟩ := info_parts info64
  have HR := Lib.hid (fun o => h.below (b0 w o))
  have BX := Lib.hid (box2_new w (.int .i64 0) (.slice none 0 0) 27)
  obtain ⟨va, vc, rfl, hvn⟩ := rd_shape h
  clear h
  have R := Lib.hid (mt_no hok)
  by_cases hf : 0 ≤ f ∧ f ≤ 100
  · obtain ⟨f0, f1⟩ := hf
    by_cases hl : 1 ≤ l ∧ l ≤ 1000000
    · obtain ⟨l0, l1⟩ := hl
      have hw : within 0 1000 rs = false ∨ min 118 (149 - f) < (rs.length : Int) := by
        cases hw : within 0 1000 rs with
        | false => exact .inl rfl
        | true =>
          right
          simp [mkOk, hw, f0, f1, l0, l1] at hok
          omega
      have HW := Lib.hid hw
      clear hw hok
      go_enter Try.func43, Try.ntmps43
      go_wp2_with (first
      | (go_at_call 58; refine (Base.l01In_yes _ _ _ _ (by omega) (by omega)).mono ?_; rintro e w' ⟨rfl, rfl⟩)
      | (go_at_call 58; refine (Base.l01In_no _ _ _ _ (by omega)).mono ?_; rintro e w' ⟨rfl, rfl⟩)
      | (go_at_call 60; refine (Base.inRange_yes _ _ _ _ (by omega) (by omega)).mono ?_; rintro e w' ⟨rfl, rfl⟩)
      | (go_at_call 60; refine (Base.inRange_no _ _ _ _ (by omega)).mono ?_; rintro e w' ⟨rfl, rfl⟩)
      | (go_at_call 63; refine (Base.spec_l01Money_yes _ _ (by omega) (by omega)).mono ?_; rintro e w' ⟨rfl, rfl⟩)
      | (go_at_call 63; refine (Base.spec_l01Money_no _ _ (by omega)).mono ?_; rintro e w' ⟨rfl, rfl⟩)
      | (go_at_call 65; refine (Base.impl_isMoney_yes _ _ (by omega) (by omega)).mono ?_; rintro e w' ⟨rfl, rfl⟩)
      | (go_at_call 65; refine (Base.impl_isMoney_no _ _ (by omega)).mono ?_; rintro e w' ⟨rfl, rfl⟩)
      | (go_at_call 67; refine (Base.spec_l04Rate_yes _ _ (by omega) (by omega)).mono ?_; rintro e w' ⟨rfl, rfl⟩)
      | (go_at_call 67; refine (Base.spec_l04Rate_no _ _ (by omega)).mono ?_; rintro e w' ⟨rfl, rfl⟩)
      | (go_at_call 68; refine (Base.impl_isRate_yes _ _ (by omega) (by omega)).mono ?_; rintro e w' ⟨rfl, rfl⟩)
      | (go_at_call 68; refine (Base.impl_isRate_no _ _ (by omega)).mono ?_; rintro e w' ⟨rfl, rfl⟩)
      | (go_at_call 61; refine (Lists.l01Within_no _ rs _ _ _ _ (HR.out _) (by rcases HW.out with h | h; exact .inl h; exact .inr (by omega))).mono ?_; rintro e w1 ⟨rfl, hb1⟩; have HB1 := Lib.hid hb1; have ⟨hc1, hf1⟩ := bcell hb1; obtain ⟨m0, m1, m2⟩ := (BX.out).below hb1; clear hb1))
      all_goals
        refine bodyPost_ret (v := .tuple #[.agg #[.int .i64 0, .slice none 0 0], .int .i64 2]) (by simp [results, Try.results43, go_sem, m0, m1]) rfl ?_
        exact mt_ret R.out (sl_nil _ _) ((bl (b0 w _) HB1.out).setCell (by simp) _ |>.setCell (by simp) _)
    · have hl' : l < 1 ∨ 1000000 < l := by omega
      clear hl hok
      go_enter Try.func43, Try.ntmps43
      go_wp2_with (first
      | (go_at_call 58; refine (Base.l01In_yes _ _ _ _ (by omega) (by omega)).mono ?_; rintro e w' ⟨rfl, rfl⟩)
      | (go_at_call 58; refine (Base.l01In_no _ _ _ _ (by omega)).mono ?_; rintro e w' ⟨rfl, rfl⟩)
      | (go_at_call 60; refine (Base.inRange_yes _ _ _ _ (by omega) (by omega)).mono ?_; rintro e w' ⟨rfl, rfl⟩)
      | (go_at_call 60; refine (Base.inRange_no _ _ _ _ (by omega)).mono ?_; rintro e w' ⟨rfl, rfl⟩)
      | (go_at_call 63; refine (Base.spec_l01Money_yes _ _ (by omega) (by omega)).mono ?_; rintro e w' ⟨rfl, rfl⟩)
      | (go_at_call 63; refine (Base.spec_l01Money_no _ _ (by omega)).mono ?_; rintro e w' ⟨rfl, rfl⟩)
      | (go_at_call 65; refine (Base.impl_isMoney_yes _ _ (by omega) (by omega)).mono ?_; rintro e w' ⟨rfl, rfl⟩)
      | (go_at_call 65; refine (Base.impl_isMoney_no _ _ (by omega)).mono ?_; rintro e w' ⟨rfl, rfl⟩)
      | (go_at_call 67; refine (Base.spec_l04Rate_yes _ _ (by omega) (by omega)).mono ?_; rintro e w' ⟨rfl, rfl⟩)
      | (go_at_call 67; refine (Base.spec_l04Rate_no _ _ (by omega)).mono ?_; rintro e w' ⟨rfl, rfl⟩)
      | (go_at_call 68; refine (Base.impl_isRate_yes _ _ (by omega) (by omega)).mono ?_; rintro e w' ⟨rfl, rfl⟩)
      | (go_at_call 68; refine (Base.impl_isRate_no _ _ (by omega)).mono ?_; rintro e w' ⟨rfl, rfl⟩)
     )
      refine bodyPost_ret (v := .tuple #[.agg #[.int .i64 0, .slice none 0 0], .int .i64 2]) (by simp [results, Try.results43, go_sem]) rfl ?_
      exact mt_ret R.out (sl_nil _ _) (by go_grown)
  · have hf' : f < 0 ∨ 100 < f := by omega
    clear hf hok
    go_enter Try.func43, Try.ntmps43
    go_wp2_with (first
      | (go_at_call 58; refine (Base.l01In_yes _ _ _ _ (by omega) (by omega)).mono ?_; rintro e w' ⟨rfl, rfl⟩)
      | (go_at_call 58; refine (Base.l01In_no _ _ _ _ (by omega)).mono ?_; rintro e w' ⟨rfl, rfl⟩)
      | (go_at_call 60; refine (Base.inRange_yes _ _ _ _ (by omega) (by omega)).mono ?_; rintro e w' ⟨rfl, rfl⟩)
      | (go_at_call 60; refine (Base.inRange_no _ _ _ _ (by omega)).mono ?_; rintro e w' ⟨rfl, rfl⟩)
      | (go_at_call 63; refine (Base.spec_l01Money_yes _ _ (by omega) (by omega)).mono ?_; rintro e w' ⟨rfl, rfl⟩)
      | (go_at_call 63; refine (Base.spec_l01Money_no _ _ (by omega)).mono ?_; rintro e w' ⟨rfl, rfl⟩)
      | (go_at_call 65; refine (Base.impl_isMoney_yes _ _ (by omega) (by omega)).mono ?_; rintro e w' ⟨rfl, rfl⟩)
      | (go_at_call 65; refine (Base.impl_isMoney_no _ _ (by omega)).mono ?_; rintro e w' ⟨rfl, rfl⟩)
      | (go_at_call 67; refine (Base.spec_l04Rate_yes _ _ (by omega) (by omega)).mono ?_; rintro e w' ⟨rfl, rfl⟩)
      | (go_at_call 67; refine (Base.spec_l04Rate_no _ _ (by omega)).mono ?_; rintro e w' ⟨rfl, rfl⟩)
      | (go_at_call 68; refine (Base.impl_isRate_yes _ _ (by omega) (by omega)).mono ?_; rintro e w' ⟨rfl, rfl⟩)
      | (go_at_call 68; refine (Base.impl_isRate_no _ _ (by omega)).mono ?_; rintro e w' ⟨rfl, rfl⟩)
     )
    refine bodyPost_ret (v := .tuple #[.agg #[.int .i64 0, .slice none 0 0], .int .i64 2]) (by simp [results, Try.results43, go_sem]) rfl ?_
    exact mt_ret R.out (sl_nil _ _) (by go_grown)

set_option maxHeartbeats 2000000 in
set_option maxRecDepth 1000000 in
theorem specMakeTable_yes (f l : Int) (v : Value) (rs : List Int) (w : World) (h : Rd w v rs) (hok : mkOk f l rs = true) (p0 : -9223372036854775808 ≤ f) (p1 : f ≤ 9223372036854775807) (p2 : -9223372036854775808 ≤ l) (p3 : l ≤ 9223372036854775807) :
    Calls Try.prog 43 #[.int .i64 f, .int .i64 l, v] w (MtRes f l rs w) := by
  obtain ⟨i0, hi, hz0, hz1, hz2⟩ := info_parts info64
  have HR := Lib.hid (fun o => h.below (b0 w o))
  have BX := Lib.hid (box2_new w (.int .i64 0) (.slice none 0 0) 27)
  obtain ⟨va, vc, rfl, hvn⟩ := rd_shape h
  clear h
  have R := Lib.hid (mt_yes hok)
  obtain ⟨⟨f0, f1⟩, ⟨l0, l1⟩, ⟨n0, n1⟩, hw⟩ := mkOk_of hok
  have HW := Lib.hid hw
  have WG := Lib.hid (fun i hi => within_get hw i hi)
  clear hw hok
  go_enter Try.func43, Try.ntmps43
  go_wp2_with (first
      | (go_at_call 58; refine (Base.l01In_yes _ _ _ _ (by omega) (by omega)).mono ?_; rintro e w' ⟨rfl, rfl⟩)
      | (go_at_call 58; refine (Base.l01In_no _ _ _ _ (by omega)).mono ?_; rintro e w' ⟨rfl, rfl⟩)
      | (go_at_call 60; refine (Base.inRange_yes _ _ _ _ (by omega) (by omega)).mono ?_; rintro e w' ⟨rfl, rfl⟩)
      | (go_at_call 60; refine (Base.inRange_no _ _ _ _ (by omega)).mono ?_; rintro e w' ⟨rfl, rfl⟩)
      | (go_at_call 63; refine (Base.spec_l01Money_yes _ _ (by omega) (by omega)).mono ?_; rintro e w' ⟨rfl, rfl⟩)
      | (go_at_call 63; refine (Base.spec_l01Money_no _ _ (by omega)).mono ?_; rintro e w' ⟨rfl, rfl⟩)
      | (go_at_call 65; refine (Base.impl_isMoney_yes _ _ (by omega) (by omega)).mono ?_; rintro e w' ⟨rfl, rfl⟩)
      | (go_at_call 65; refine (Base.impl_isMoney_no _ _ (by omega)).mono ?_; rintro e w' ⟨rfl, rfl⟩)
      | (go_at_call 67; refine (Base.spec_l04Rate_yes _ _ (by omega) (by omega)).mono ?_; rintro e w' ⟨rfl, rfl⟩)
      | (go_at_call 67; refine (Base.spec_l04Rate_no _ _ (by omega)).mono ?_; rintro e w' ⟨rfl, rfl⟩)
      | (go_at_call 68; refine (Base.impl_isRate_yes _ _ (by omega) (by omega)).mono ?_; rintro e w' ⟨rfl, rfl⟩)
      | (go_at_call 68; refine (Base.impl_isRate_no _ _ (by omega)).mono ?_; rintro e w' ⟨rfl, rfl⟩)
      | (go_at_call 61; refine (Lists.l01Within_yes _ rs _ _ _ _ (HR.out _) HW.out (by omega)).mono ?_; rintro e w1 ⟨rfl, hb1⟩))
  all_goals
    have BX1 := Lib.hid (BX.out.below hb1)
    have ⟨hc1, hf1⟩ := bcell hb1
    have HB1 := Lib.hid (bl (b0 w _) hb1)
    have R1 := Lib.hid ((HR.out _).below hb1)
    have hz1' : w.heap.size < w1.heap.size := by have := hb1.size; simp at this; omega
    have GN := Lib.hid (growing_new w1 f l)
    clear hb1
    go_wp2_with fail
    go_loopw [1, 9] (fun ll i wr => ∃ (k n cc : Nat) (L : Int) (ao : Option Addr) (ys : List Int), k ≤ rs.length ∧ n ≤ k + 1 ∧ ll = .int .i64 L ∧ i = .int .i64 k ∧ 0 ≤ L ∧ L ≤ 1000000 ∧ Hid (Growing w1.heap.size (w1.heap.size + 1) w1 wr f (.slice ao n cc) n ys) ∧ Hid (l :: tl l rs = ys ++ tl L (rs.drop k))) (fun _ i _ => rs.length - (intOf i).toNat)
    case atStart => exact ⟨0, 1, _, l, _, [l], by omega, by omega, rfl, rfl, by omega, by omega, GN.out, rfl⟩
    case round =>
      obtain ⟨k, n, cc, L, ao, ys, hk, hn, rfl, rfl, L0, L1, HG, HE⟩ := hrel
      have hq := HG.out.1
      have c0 := cell_of_block hq (j := 0) rfl
      have c1 := cell_of_block hq (j := 1) rfl
      have HO := Lib.hid HG.out.2.1
      have HBr := Lib.hid HG.out.2.2.1
      have HZ := Lib.hid HG.out.2.2.2
      clear hq
      by_cases hL : 0 < L
      · by_cases hlt : k < rs.length
        · have hcell : ∃ b off, va = some ⟨b, off, none⟩ ∧ wr.cell? ⟨b, off + k, none⟩ = some (.int .i64 (rs.getD k 0)) := by
            rcases (R1.out.below HBr.out) with ⟨_, h2⟩ | ⟨b, off, cap, h1, _, _, _, hb, hx⟩
            · subst h2; simp at hlt
            · injection h1 with h1 _ _; exact ⟨b, off, h1, hx k hlt⟩
          obtain ⟨b, off, rfl, hck⟩ := hcell
          obtain ⟨r0, r1⟩ := WG.out k hlt
          have TP := Lib.hid (tl_pos hL rs k hlt)
          generalize rs.getD k 0 = r at *
          obtain ⟨q0, q1⟩ := prod_bd L0 L1 r0 r1
          obtain ⟨x0, x1, u0, u1⟩ := nxt_bd L0 L1 r0 r1
          have NX : nxt L r = L - Plain.upq (L * r) 1000 := rfl
          have UP := Lib.hid (fun w => Round.l01Up_any (L * r) 1000 w (by omega) (by omega) q0 (by omega))
          have q1' : L * r ≤ 1000000000 := by omega
          rw [NX] at TP x0 x1
          clear NX q1
          generalize Plain.upq (L * r) 1000 = U at *
          have HE2 : Hid (l :: tl l rs = (ys ++ [L - U]) ++ tl (L - U) (rs.drop (k + 1))) := by show _ = _; rw [HE.out, TP.out]; simp
          go_wp2_with fail
          refine (UP.out _).mono ?_; rintro e w' ⟨rfl, rfl⟩
          go_wp2_with (at_builtin; refine wpList_append_own _ rfl _ _ 22 rfl w1.heap.size 2 i0 (.int .i64 0) 1 8 Try.underlying22 hi hz0 hz1 hz2 rfl (by decide) _ _ _ rfl (HO.out.alloc _) ⟨wr.heap.size, 0, none⟩ 1 1 [.int .i64 (L - U)] rfl rfl (by intro j u hj; match j, hj with | 0, hj => simp at hj; subst hj; simp [Addr.add]) (by intro u hu; simp at hu; subst hu; rfl) (by unfold maxLen; omega) (by omega) (by have := HZ.out; simp; omega) ?_; intro v' w9 hown' hgrow hnil'; obtain ⟨ao', c', rfl⟩ := own_shape hown'; obtain ⟨h9, g9⟩ := growing_app HG.out (by omega) hgrow hown'; have G9 := Lib.hid g9; have c9 := cell_of_block h9 (j := 1) rfl; have d9 := cell_of_block h9 (j := 0) rfl; have f9 := frozen_of_row w9 (w1.heap.size + 1) 1 _ _ h9; clear hown' hgrow hnil' h9 g9)
          go_wp2
          go_roundw
          case rel => exact ⟨k + 1, n + 1, c', L - U, ao', ys ++ [L - U], by omega, by omega, rfl, by go_num, by omega, by omega, G9.out, HE2.out⟩
          case measure => simp [intOf] <;> omega
        · obtain rfl : k = rs.length := by omega
          have HE2 : Hid (l :: tl l rs = ys ++ [0]) := by show _ = _; rw [HE.out, tl_end, if_pos hL]
          go_wp2_with (at_builtin; refine wpList_append_own _ rfl _ _ 22 rfl w1.heap.size 2 i0 (.int .i64 0) 1 8 Try.underlying22 hi hz0 hz1 hz2 rfl (by decide) _ _ _ rfl (HO.out.alloc _) ⟨wr.heap.size, 0, none⟩ 1 1 [.int .i64 0] rfl rfl (by intro j u hj; match j, hj with | 0, hj => simp at hj; subst hj; simp [Addr.add]) (by intro u hu; simp at hu; subst hu; rfl) (by unfold maxLen; omega) (by omega) (by have := HZ.out; simp; omega) ?_; intro v' w9 hown' hgrow hnil'; obtain ⟨ao', c', rfl⟩ := own_shape hown'; obtain ⟨h9, g9⟩ := growing_app HG.out (by omega) hgrow hown'; have G9 := Lib.hid g9; have c9 := cell_of_block h9 (j := 1) rfl; have d9 := cell_of_block h9 (j := 0) rfl; have f9 := frozen_of_row w9 (w1.heap.size + 1) 1 _ _ h9; clear hown' hgrow hnil' h9 g9; obtain ⟨m0, m1, m2⟩ := BX1.out.below G9.out.2.2.1; have ⟨hcW, hfW⟩ := bcell G9.out.2.2.1; have e0 := cell_of_block G9.out.1 (j := 0) rfl; have e1 := cell_of_block G9.out.1 (j := 1) rfl)
          refine bodyPost_ret (v := .tuple #[.agg #[.int .i64 f, .slice ao' (n + 1) c'], .int .i64 0]) (by simp [results, Try.results43, go_sem, m0, m1]) rfl ?_
          have hlen := hlenle G9.out.2.1
          exact mt_ret R.out (sl_mono (Nat.le_of_lt BX1.out.2.2) (sl_setCell (sl_setCell (sl_of_own (by rw [HE2.out]; exact G9.out.2.1) (by rw [HE2.out]; omega)) BX1.out.2.2 _) BX1.out.2.2 _)) ((HB1.out.trans (G9.out.2.2.1.mono (Nat.le_of_lt BX1.out.2.2))).setCell (by simp) _ |>.setCell (by simp) _)
      · have HE2 : Hid (l :: tl l rs = ys) := by show _ = _; rw [HE.out, tl_zero (by omega), List.append_nil]
        have hL' : L ≤ 0 := by omega
        clear hL
        have HG9 := HG
        obtain ⟨m0, m1, m2⟩ := BX1.out.below HG9.out.2.2.1
        have ⟨hcW, hfW⟩ := bcell HG9.out.2.2.1
        have e0 := cell_of_block HG9.out.1 (j := 0) rfl
        have e1 := cell_of_block HG9.out.1 (j := 1) rfl
        go_wp2_with fail
        all_goals
          refine bodyPost_ret (v := .tuple #[.agg #[.int .i64 f, .slice ao n cc], .int .i64 0]) (by simp [results, Try.results43, go_sem, m0, m1]) rfl ?_
          have hlen := hlenle HG9.out.2.1
          exact mt_ret R.out (sl_mono (Nat.le_of_lt BX1.out.2.2) (sl_setCell (sl_setCell (sl_of_own (by rw [HE2.out]; exact HG9.out.2.1) (by rw [HE2.out]; omega)) BX1.out.2.2 _) BX1.out.2.2 _)) ((HB1.out.trans (HG9.out.2.2.1.mono (Nat.le_of_lt BX1.out.2.2))).setCell (by simp) _ |>.setCell (by simp) _)
theorem specMakeTable_any (f l : Int) (v : Value) (rs : List Int) (w : World) (h : Rd w v rs) (p0 : -9223372036854775808 ≤ f) (p1 : f ≤ 9223372036854775807) (p2 : -9223372036854775808 ≤ l) (p3 : l ≤ 9223372036854775807) :
    Calls Try.prog 43 #[.int .i64 f, .int .i64 l, v] w (MtRes f l rs w) := by
  cases hok : mkOk f l rs with
  | false => exact specMakeTable_no f l v rs w h hok p0 p1 p2 p3
  | true => exact specMakeTable_yes f l v rs w h hok p0 p1 p2 p3
set_option maxHeartbeats 2000000 in
set_option maxRecDepth 1000000 in
theorem implMakeTable_no (f l : Int) (v : Value) (rs : List Int) (w : World) (h : Rd w v rs) (hok : mkOk f l rs = false) (p0 : -9223372036854775808 ≤ f) (p1 : f ≤ 9223372036854775807) (p2 : -9223372036854775808 ≤ l) (p3 : l ≤ 9223372036854775807) :
    Calls Try.prog 44 #[.int .i64 f, .int .i64 l, v] w (MtRes f l rs w) := by
  obtain ⟨i0, hi, hz0, hz1, hz2⟩ := info_parts info64
  have HR := Lib.hid (fun o => h.below (b0 w o))
  have BX := Lib.hid (box2_new w (.int .i64 0) (.slice none 0 0) 27)
  obtain ⟨va, vc, rfl, hvn⟩ := rd_shape h
  clear h
  have R := Lib.hid (mt_no hok)
  by_cases hf : 0 ≤ f ∧ f ≤ 100
  · obtain ⟨f0, f1⟩ := hf
    by_cases hl : 1 ≤ l ∧ l ≤ 1000000
    · obtain ⟨l0, l1⟩ := hl
      by_cases hn : 118 < rs.length ∨ 149 - f < (rs.length : Int)
      · have hn' : 118 < (rs.length : Int) ∨ ((rs.length : Int) ≤ 118 ∧ 149 - f < (rs.length : Int)) := by omega
        clear hn hok
        rcases hn' with hn' | ⟨hn1, hn2⟩
        all_goals
          go_enter Try.func44, Try.ntmps44
          go_wp2_with (first
      | (go_at_call 58; refine (Base.l01In_yes _ _ _ _ (by omega) (by omega)).mono ?_; rintro e w' ⟨rfl, rfl⟩)
      | (go_at_call 58; refine (Base.l01In_no _ _ _ _ (by omega)).mono ?_; rintro e w' ⟨rfl, rfl⟩)
      | (go_at_call 60; refine (Base.inRange_yes _ _ _ _ (by omega) (by omega)).mono ?_; rintro e w' ⟨rfl, rfl⟩)
      | (go_at_call 60; refine (Base.inRange_no _ _ _ _ (by omega)).mono ?_; rintro e w' ⟨rfl, rfl⟩)
      | (go_at_call 63; refine (Base.spec_l01Money_yes _ _ (by omega) (by omega)).mono ?_; rintro e w' ⟨rfl, rfl⟩)
      | (go_at_call 63; refine (Base.spec_l01Money_no _ _ (by omega)).mono ?_; rintro e w' ⟨rfl, rfl⟩)
      | (go_at_call 65; refine (Base.impl_isMoney_yes _ _ (by omega) (by omega)).mono ?_; rintro e w' ⟨rfl, rfl⟩)
      | (go_at_call 65; refine (Base.impl_isMoney_no _ _ (by omega)).mono ?_; rintro e w' ⟨rfl, rfl⟩)
      | (go_at_call 67; refine (Base.spec_l04Rate_yes _ _ (by omega) (by omega)).mono ?_; rintro e w' ⟨rfl, rfl⟩)
      | (go_at_call 67; refine (Base.spec_l04Rate_no _ _ (by omega)).mono ?_; rintro e w' ⟨rfl, rfl⟩)
      | (go_at_call 68; refine (Base.impl_isRate_yes _ _ (by omega) (by omega)).mono ?_; rintro e w' ⟨rfl, rfl⟩)
      | (go_at_call 68; refine (Base.impl_isRate_no _ _ (by omega)).mono ?_; rintro e w' ⟨rfl, rfl⟩)
      | (go_at_call 59; refine (Lists.length_any _ _ _ _ (by omega)).mono ?_; rintro e w' ⟨rfl, rfl⟩))
          refine bodyPost_ret (v := .tuple #[.agg #[.int .i64 0, .slice none 0 0], .int .i64 2]) (by simp [results, Try.results44, go_sem]) rfl ?_
          exact mt_ret R.out (sl_nil _ _) (by go_grown)
      · have hn1 : (rs.length : Int) ≤ 118 := by omega
        have hn2 : (rs.length : Int) ≤ 149 - f := by omega
        have hw : within 0 1000 rs = false := by
          cases hw : within 0 1000 rs with
          | false => rfl
          | true => simp [mkOk, hw, f0, f1, l0, l1] at hok; omega
        have AI : Hid (∀ w, Rd w (.slice va rs.length vc) rs → Calls Try.prog 64 #[.slice va rs.length vc, .int .i64 0, .int .i64 1000] w fun e w' => e = .returned (.bool false) ∧ Below w.heap.size w w') := fun w h => by
          have := Lists.allIn_any (.slice va rs.length vc) rs 0 1000 w h
          rw [hw] at this; exact this
        clear hn hok hw
        go_enter Try.func44, Try.ntmps44
        go_wp2_with (first
      | (go_at_call 58; refine (Base.l01In_yes _ _ _ _ (by omega) (by omega)).mono ?_; rintro e w' ⟨rfl, rfl⟩)
      | (go_at_call 58; refine (Base.l01In_no _ _ _ _ (by omega)).mono ?_; rintro e w' ⟨rfl, rfl⟩)
      | (go_at_call 60; refine (Base.inRange_yes _ _ _ _ (by omega) (by omega)).mono ?_; rintro e w' ⟨rfl, rfl⟩)
      | (go_at_call 60; refine (Base.inRange_no _ _ _ _ (by omega)).mono ?_; rintro e w' ⟨rfl, rfl⟩)
      | (go_at_call 63; refine (Base.spec_l01Money_yes _ _ (by omega) (by omega)).mono ?_; rintro e w' ⟨rfl, rfl⟩)
      | (go_at_call 63; refine (Base.spec_l01Money_no _ _ (by omega)).mono ?_; rintro e w' ⟨rfl, rfl⟩)
      | (go_at_call 65; refine (Base.impl_isMoney_yes _ _ (by omega) (by omega)).mono ?_; rintro e w' ⟨rfl, rfl⟩)
      | (go_at_call 65; refine (Base.impl_isMoney_no _ _ (by omega)).mono ?_; rintro e w' ⟨rfl, rfl⟩)
      | (go_at_call 67; refine (Base.spec_l04Rate_yes _ _ (by omega) (by omega)).mono ?_; rintro e w' ⟨rfl, rfl⟩)
      | (go_at_call 67; refine (Base.spec_l04Rate_no _ _ (by omega)).mono ?_; rintro e w' ⟨rfl, rfl⟩)
      | (go_at_call 68; refine (Base.impl_isRate_yes _ _ (by omega) (by omega)).mono ?_; rintro e w' ⟨rfl, rfl⟩)
      | (go_at_call 68; refine (Base.impl_isRate_no _ _ (by omega)).mono ?_; rintro e w' ⟨rfl, rfl⟩)
      | (go_at_call 59; refine (Lists.length_any _ _ _ _ (by omega)).mono ?_; rintro e w' ⟨rfl, rfl⟩) | (go_at_call 64; refine (AI.out _ (HR.out _)).mono ?_; rintro e w1 ⟨rfl, hb1⟩; have HB1 := Lib.hid hb1; have ⟨hc1, hf1⟩ := bcell hb1; obtain ⟨m0, m1, m2⟩ := (BX.out).below hb1; clear hb1))
        refine bodyPost_ret (v := .tuple #[.agg #[.int .i64 0, .slice none 0 0], .int .i64 2]) (by simp [results, Try.results44, go_sem, m0, m1]) rfl ?_
        exact mt_ret R.out (sl_nil _ _) ((bl (b0 w _) HB1.out).setCell (by simp) _ |>.setCell (by simp) _)
    · have hl' : l < 1 ∨ 1000000 < l := by omega
      clear hl hok
      go_enter Try.func44, Try.ntmps44
      go_wp2_with (first
      | (go_at_call 58; refine (Base.l01In_yes _ _ _ _ (by omega) (by omega)).mono ?_; rintro e w' ⟨rfl, rfl⟩)
      | (go_at_call 58; refine (Base.l01In_no _ _ _ _ (by omega)).mono ?_; rintro e w' ⟨rfl, rfl⟩)
      | (go_at_call 60; refine (Base.inRange_yes _ _ _ _ (by omega) (by omega)).mono ?_; rintro e w' ⟨rfl, rfl⟩)
      | (go_at_call 60; refine (Base.inRange_no _ _ _ _ (by omega)).mono ?_; rintro e w' ⟨rfl, rfl⟩)
      | (go_at_call 63; refine (Base.spec_l01Money_yes _ _ (by omega) (by omega)).mono ?_; rintro e w' ⟨rfl, rfl⟩)
      | (go_at_call 63; refine (Base.spec_l01Money_no _ _ (by omega)).mono ?_; rintro e w' ⟨rfl, rfl⟩)
      | (go_at_call 65; refine (Base.impl_isMoney_yes _ _ (by omega) (by omega)).mono ?_; rintro e w' ⟨rfl, rfl⟩)
      | (go_at_call 65; refine (Base.impl_isMoney_no _ _ (by omega)).mono ?_; rintro e w' ⟨rfl, rfl⟩)
      | (go_at_call 67; refine (Base.spec_l04Rate_yes _ _ (by omega) (by omega)).mono ?_; rintro e w' ⟨rfl, rfl⟩)
      | (go_at_call 67; refine (Base.spec_l04Rate_no _ _ (by omega)).mono ?_; rintro e w' ⟨rfl, rfl⟩)
      | (go_at_call 68; refine (Base.impl_isRate_yes _ _ (by omega) (by omega)).mono ?_; rintro e w' ⟨rfl, rfl⟩)
      | (go_at_call 68; refine (Base.impl_isRate_no _ _ (by omega)).mono ?_; rintro e w' ⟨rfl, rfl⟩)
     )
      refine bodyPost_ret (v := .tuple #[.agg #[.int .i64 0, .slice none 0 0], .int .i64 2]) (by simp [results, Try.results44, go_sem]) rfl ?_
      exact mt_ret R.out (sl_nil _ _) (by go_grown)
  · have hf' : f < 0 ∨ 100 < f := by omega
    clear hf hok
    go_enter Try.func44, Try.ntmps44
    go_wp2_with (first
      | (go_at_call 58; refine (Base.l01In_yes _ _ _ _ (by omega) (by omega)).mono ?_; rintro e w' ⟨rfl, rfl⟩)
      | (go_at_call 58; refine (Base.l01In_no _ _ _ _ (by omega)).mono ?_; rintro e w' ⟨rfl, rfl⟩)
      | (go_at_call 60; refine (Base.inRange_yes _ _ _ _ (by omega) (by omega)).mono ?_; rintro e w' ⟨rfl, rfl⟩)
      | (go_at_call 60; refine (Base.inRange_no _ _ _ _ (by omega)).mono ?_; rintro e w' ⟨rfl, rfl⟩)
      | (go_at_call 63; refine (Base.spec_l01Money_yes _ _ (by omega) (by omega)).mono ?_; rintro e w' ⟨rfl, rfl⟩)
      | (go_at_call 63; refine (Base.spec_l01Money_no _ _ (by omega)).mono ?_; rintro e w' ⟨rfl, rfl⟩)
      | (go_at_call 65; refine (Base.impl_isMoney_yes _ _ (by omega) (by omega)).mono ?_; rintro e w' ⟨rfl, rfl⟩)
      | (go_at_call 65; refine (Base.impl_isMoney_no _ _ (by omega)).mono ?_; rintro e w' ⟨rfl, rfl⟩)
      | (go_at_call 67; refine (Base.spec_l04Rate_yes _ _ (by omega) (by omega)).mono ?_; rintro e w' ⟨rfl, rfl⟩)
      | (go_at_call 67; refine (Base.spec_l04Rate_no _ _ (by omega)).mono ?_; rintro e w' ⟨rfl, rfl⟩)
      | (go_at_call 68; refine (Base.impl_isRate_yes _ _ (by omega) (by omega)).mono ?_; rintro e w' ⟨rfl, rfl⟩)
      | (go_at_call 68; refine (Base.impl_isRate_no _ _ (by omega)).mono ?_; rintro e w' ⟨rfl, rfl⟩)
     )
    refine bodyPost_ret (v := .tuple #[.agg #[.int .i64 0, .slice none 0 0], .int .i64 2]) (by simp [results, Try.results44, go_sem]) rfl ?_
    exact mt_ret R.out (sl_nil _ _) (by go_grown)

set_option maxHeartbeats 2000000 in
set_option maxRecDepth 1000000 in
theorem implMakeTable_yes (f l : Int) (v : Value) (rs : List Int) (w : World) (h : Rd w v rs) (hok : mkOk f l rs = true) (p0 : -9223372036854775808 ≤ f) (p1 : f ≤ 9223372036854775807) (p2 : -9223372036854775808 ≤ l) (p3 : l ≤ 9223372036854775807) :
    Calls Try.prog 44 #[.int .i64 f, .int .i64 l, v] w (MtRes f l rs w) := by
  obtain ⟨i0, hi, hz0, hz1, hz2⟩ := info_parts info64
  have HR := Lib.hid (fun o => h.below (b0 w o))
  have BX := Lib.hid (box2_new w (.int .i64 0) (.slice none 0 0) 27)
  obtain ⟨va, vc, rfl, hvn⟩ := rd_shape h
  clear h
  have R := Lib.hid (mt_yes hok)
  obtain ⟨⟨f0, f1⟩, ⟨l0, l1⟩, ⟨n0, n1⟩, hw⟩ := mkOk_of hok
  have HW := Lib.hid hw
  have WG := Lib.hid (fun i hi => within_get hw i hi)
  clear hw hok
  go_enter Try.func44, Try.ntmps44
  have AI : Hid (∀ w, Rd w (.slice va rs.length vc) rs → Calls Try.prog 64 #[.slice va rs.length vc, .int .i64 0, .int .i64 1000] w fun e w' => e = .returned (.bool true) ∧ Below w.heap.size w w') := fun w h => by
    have := Lists.allIn_any (.slice va rs.length vc) rs 0 1000 w h
    rw [HW.out] at this; exact this
  go_wp2_with (first
      | (go_at_call 58; refine (Base.l01In_yes _ _ _ _ (by omega) (by omega)).mono ?_; rintro e w' ⟨rfl, rfl⟩)
      | (go_at_call 58; refine (Base.l01In_no _ _ _ _ (by omega)).mono ?_; rintro e w' ⟨rfl, rfl⟩)
      | (go_at_call 60; refine (Base.inRange_yes _ _ _ _ (by omega) (by omega)).mono ?_; rintro e w' ⟨rfl, rfl⟩)
      | (go_at_call 60; refine (Base.inRange_no _ _ _ _ (by omega)).mono ?_; rintro e w' ⟨rfl, rfl⟩)
      | (go_at_call 63; refine (Base.spec_l01Money_yes _ _ (by omega) (by omega)).mono ?_; rintro e w' ⟨rfl, rfl⟩)
      | (go_at_call 63; refine (Base.spec_l01Money_no _ _ (by omega)).mono ?_; rintro e w' ⟨rfl, rfl⟩)
      | (go_at_call 65; refine (Base.impl_isMoney_yes _ _ (by omega) (by omega)).mono ?_; rintro e w' ⟨rfl, rfl⟩)
      | (go_at_call 65; refine (Base.impl_isMoney_no _ _ (by omega)).mono ?_; rintro e w' ⟨rfl, rfl⟩)
      | (go_at_call 67; refine (Base.spec_l04Rate_yes _ _ (by omega) (by omega)).mono ?_; rintro e w' ⟨rfl, rfl⟩)
      | (go_at_call 67; refine (Base.spec_l04Rate_no _ _ (by omega)).mono ?_; rintro e w' ⟨rfl, rfl⟩)
      | (go_at_call 68; refine (Base.impl_isRate_yes _ _ (by omega) (by omega)).mono ?_; rintro e w' ⟨rfl, rfl⟩)
      | (go_at_call 68; refine (Base.impl_isRate_no _ _ (by omega)).mono ?_; rintro e w' ⟨rfl, rfl⟩)
      | (go_at_call 59; refine (Lists.length_any _ _ _ _ (by omega)).mono ?_; rintro e w' ⟨rfl, rfl⟩) | (go_at_call 64; refine (AI.out _ (HR.out _)).mono ?_; rintro e w1 ⟨rfl, hb1⟩))
  all_goals
    have BX1 := Lib.hid (BX.out.below hb1)
    have ⟨hc1, hf1⟩ := bcell hb1
    have HB1 := Lib.hid (bl (b0 w _) hb1)
    have R1 := Lib.hid ((HR.out _).below hb1)
    have hz1' : w.heap.size < w1.heap.size := by have := hb1.size; simp at this; omega
    have GN := Lib.hid (growing_new w1 f l)
    clear hb1
    go_wp2_with fail
    go_loopw [1, 43] (fun ll i wr => ∃ (k n cc : Nat) (L : Int) (ao : Option Addr) (ys : List Int), k ≤ rs.length ∧ n ≤ k + 1 ∧ ll = .int .i64 L ∧ i = .int .i64 k ∧ 0 ≤ L ∧ L ≤ 1000000 ∧ Hid (Growing w1.heap.size (w1.heap.size + 1) w1 wr f (.slice ao n cc) n ys) ∧ Hid (l :: tl l rs = ys ++ tl L (rs.drop k))) (fun _ i _ => rs.length - (intOf i).toNat)
    case atStart => exact ⟨0, 1, _, l, _, [l], by omega, by omega, rfl, rfl, by omega, by omega, GN.out, rfl⟩
    case round =>
      obtain ⟨k, n, cc, L, ao, ys, hk, hn, rfl, rfl, L0, L1, HG, HE⟩ := hrel
      have hq := HG.out.1
      have c0 := cell_of_block hq (j := 0) rfl
      have c1 := cell_of_block hq (j := 1) rfl
      have HO := Lib.hid HG.out.2.1
      have HBr := Lib.hid HG.out.2.2.1
      have HZ := Lib.hid HG.out.2.2.2
      clear hq
      by_cases hlt : k < rs.length
      · have hcell : ∃ b off, va = some ⟨b, off, none⟩ ∧ wr.cell? ⟨b, off + k, none⟩ = some (.int .i64 (rs.getD k 0)) := by
          rcases (R1.out.below HBr.out) with ⟨_, h2⟩ | ⟨b, off, cap, h1, _, _, _, hb, hx⟩
          · subst h2; simp at hlt
          · injection h1 with h1 _ _; exact ⟨b, off, h1, hx k hlt⟩
        obtain ⟨b, off, rfl, hck⟩ := hcell
        obtain ⟨r0, r1⟩ := WG.out k hlt
        by_cases hL : 0 < L
        · have TP := Lib.hid (tl_pos hL rs k hlt)
          generalize rs.getD k 0 = r at *
          obtain ⟨q0, q1⟩ := prod_bd L0 L1 r0 r1
          obtain ⟨x0, x1, u0, u1⟩ := nxt_bd L0 L1 r0 r1
          have NX : nxt L r = L - Plain.upq (L * r) 1000 := rfl
          have UP := Lib.hid (fun w => Round.up_any (L * r) 1000 w (by omega) (by omega) q0 (by omega))
          have q1' : L * r ≤ 1000000000 := by omega
          rw [NX] at TP x0 x1
          clear NX q1
          generalize Plain.upq (L * r) 1000 = U at *
          have HE2 : Hid (l :: tl l rs = (ys ++ [L - U]) ++ tl (L - U) (rs.drop (k + 1))) := by show _ = _; rw [HE.out, TP.out]; simp
          go_wp2_with fail
          refine (UP.out _).mono ?_; rintro e w' ⟨rfl, rfl⟩
          go_wp2_with (at_builtin; refine wpList_append_own _ rfl _ _ 22 rfl w1.heap.size 2 i0 (.int .i64 0) 1 8 Try.underlying22 hi hz0 hz1 hz2 rfl (by decide) _ _ _ rfl (HO.out.alloc _) ⟨wr.heap.size, 0, none⟩ 1 1 [.int .i64 (L - U)] rfl rfl (by intro j u hj; match j, hj with | 0, hj => simp at hj; subst hj; simp [Addr.add]) (by intro u hu; simp at hu; subst hu; rfl) (by unfold maxLen; omega) (by omega) (by have := HZ.out; simp; omega) ?_; intro v' w9 hown' hgrow hnil'; obtain ⟨ao', c', rfl⟩ := own_shape hown'; obtain ⟨h9, g9⟩ := growing_app HG.out (by omega) hgrow hown'; have G9 := Lib.hid g9; have c9 := cell_of_block h9 (j := 1) rfl; have d9 := cell_of_block h9 (j := 0) rfl; have f9 := frozen_of_row w9 (w1.heap.size + 1) 1 _ _ h9; clear hown' hgrow hnil' h9 g9)
          go_wp2
          go_roundw
          case rel => exact ⟨k + 1, n + 1, c', L - U, ao', ys ++ [L - U], by omega, by omega, rfl, by go_num, by omega, by omega, G9.out, HE2.out⟩
          case measure => simp [intOf] <;> omega
        · have HE2 : Hid (l :: tl l rs = ys ++ tl L (rs.drop (k + 1))) := by show _ = _; rw [HE.out, tl_zero (by omega), tl_zero (by omega)]
          have hL' : L ≤ 0 := by omega
          clear hL
          generalize rs.getD k 0 = r at *
          go_wp2
          go_roundw
          case rel => exact ⟨k + 1, n, cc, L, ao, ys, by omega, by omega, rfl, by go_num, by omega, by omega, HG.out, HE2.out⟩
          case measure => simp [intOf] <;> omega
      · obtain rfl : k = rs.length := by omega
        by_cases hL : 0 < L
        · have HE2 : Hid (l :: tl l rs = ys ++ [0]) := by show _ = _; rw [HE.out, tl_end, if_pos hL]
          go_wp2_with (at_builtin; refine wpList_append_own _ rfl _ _ 22 rfl w1.heap.size 2 i0 (.int .i64 0) 1 8 Try.underlying22 hi hz0 hz1 hz2 rfl (by decide) _ _ _ rfl (HO.out.alloc _) ⟨wr.heap.size, 0, none⟩ 1 1 [.int .i64 0] rfl rfl (by intro j u hj; match j, hj with | 0, hj => simp at hj; subst hj; simp [Addr.add]) (by intro u hu; simp at hu; subst hu; rfl) (by unfold maxLen; omega) (by omega) (by have := HZ.out; simp; omega) ?_; intro v' w9 hown' hgrow hnil'; obtain ⟨ao', c', rfl⟩ := own_shape hown'; obtain ⟨h9, g9⟩ := growing_app HG.out (by omega) hgrow hown'; have G9 := Lib.hid g9; have c9 := cell_of_block h9 (j := 1) rfl; have d9 := cell_of_block h9 (j := 0) rfl; have f9 := frozen_of_row w9 (w1.heap.size + 1) 1 _ _ h9; clear hown' hgrow hnil' h9 g9; obtain ⟨m0, m1, m2⟩ := BX1.out.below G9.out.2.2.1; have ⟨hcW, hfW⟩ := bcell G9.out.2.2.1; have e0 := cell_of_block G9.out.1 (j := 0) rfl; have e1 := cell_of_block G9.out.1 (j := 1) rfl)
          refine bodyPost_ret (v := .tuple #[.agg #[.int .i64 f, .slice ao' (n + 1) c'], .int .i64 0]) (by simp [results, Try.results44, go_sem, m0, m1]) rfl ?_
          have hlen := hlenle G9.out.2.1
          exact mt_ret R.out (sl_mono (Nat.le_of_lt BX1.out.2.2) (sl_setCell (sl_setCell (sl_of_own (by rw [HE2.out]; exact G9.out.2.1) (by rw [HE2.out]; omega)) BX1.out.2.2 _) BX1.out.2.2 _)) ((HB1.out.trans (G9.out.2.2.1.mono (Nat.le_of_lt BX1.out.2.2))).setCell (by simp) _ |>.setCell (by simp) _)
        · have HE2 : Hid (l :: tl l rs = ys) := by show _ = _; rw [HE.out, tl_zero (by omega), List.append_nil]
          have hL' : L ≤ 0 := by omega
          clear hL
          have HG9 := HG
          obtain ⟨m0, m1, m2⟩ := BX1.out.below HG9.out.2.2.1
          have ⟨hcW, hfW⟩ := bcell HG9.out.2.2.1
          have e0 := cell_of_block HG9.out.1 (j := 0) rfl
          have e1 := cell_of_block HG9.out.1 (j := 1) rfl
          go_wp2_with fail
          all_goals
            refine bodyPost_ret (v := .tuple #[.agg #[.int .i64 f, .slice ao n cc], .int .i64 0]) (by simp [results, Try.results44, go_sem, m0, m1]) rfl ?_
            have hlen := hlenle HG9.out.2.1
            exact mt_ret R.out (sl_mono (Nat.le_of_lt BX1.out.2.2) (sl_setCell (sl_setCell (sl_of_own (by rw [HE2.out]; exact HG9.out.2.1) (by rw [HE2.out]; omega)) BX1.out.2.2 _) BX1.out.2.2 _)) ((HB1.out.trans (HG9.out.2.2.1.mono (Nat.le_of_lt BX1.out.2.2))).setCell (by simp) _ |>.setCell (by simp) _)
theorem implMakeTable_any (f l : Int) (v : Value) (rs : List Int) (w : World) (h : Rd w v rs) (p0 : -9223372036854775808 ≤ f) (p1 : f ≤ 9223372036854775807) (p2 : -9223372036854775808 ≤ l) (p3 : l ≤ 9223372036854775807) :
    Calls Try.prog 44 #[.int .i64 f, .int .i64 l, v] w (MtRes f l rs w) := by
  cases hok : mkOk f l rs with
  | false => exact implMakeTable_no f l v rs w h hok p0 p1 p2 p3
  | true => exact implMakeTable_yes f l v rs w h hok p0 p1 p2 p3
end Go.Proofs.Ytochnbljjlloiaa.Makes
