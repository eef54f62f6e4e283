/-
  Contract of the program's ReadPolicy.
  Conditions: the library's table, its errors and MaxLen read (Tab, DoorE, DoorM).
-/
import Derived.Test.YtfnmomdjmhbffaaDoorReadPols
import Derived.OwnWalk
namespace Go.Proofs.YtfnmomdjmhbffaaDoor.ReadPols
open Go.RowKit Mem Texts TextPlain ReadPlain Reads Doors Words Numbers Policies Concats
set_option linter.unusedVariables false

/-- The words read as the numbers. -/
def Par (ws : List (List UInt8)) (xs : List Int) : Prop := ws.map (Lib.parseIntB 64) = xs.map Lib.NumEnd.ok
theorem par_len {ws : List (List UInt8)} {xs : List Int} (h : Par ws xs) : xs.length = ws.length := by
  have := congrArg List.length h; rw [List.length_map, List.length_map] at this; exact this.symm
theorem par_snoc {ws : List (List UInt8)} {k : Nat} {xs : List Int} {v : Int} (hk : k < ws.length) (h : Par (ws.take k) xs) (e : Lib.parseIntB 64 (ws.getD k []) = .ok v) : Par (ws.take (k + 1)) (xs ++ [v]) := by
  unfold Par at *
  rw [List.take_succ_eq_append_getElem hk, List.map_append, h, List.map_append, ← getD_ltS hk, List.map_cons, e]
  rfl
theorem par_itoa {xs : List Int} (h : ∀ x ∈ xs, -9223372036854775807 ≤ x ∧ x ≤ 9223372036854775807) : Par (xs.map Lib.itoa) xs := by
  unfold Par
  rw [List.map_map]
  refine List.map_congr_left fun x hx => ?_
  exact parse_itoa x (h x hx).1 (h x hx).2
theorem ok_inj {xs ys : List Int} (h : xs.map (Lib.NumEnd.ok (α := Int)) = ys.map Lib.NumEnd.ok) : xs = ys := by
  induction xs generalizing ys with
  | nil => cases ys with
    | nil => rfl
    | cons y ys => cases h
  | cons x xs ih => cases ys with
    | nil => cases h
    | cons y ys =>
      simp only [List.map_cons, List.cons.injEq, Lib.NumEnd.ok.injEq] at h
      rw [h.1, ih h.2]
theorem par_pol {l : List UInt8} {xs ys : List Int} (h : PolIs l xs) (g : Par (splitC 44 l) ys) : xs = ys := by
  rw [pol_words h] at g
  exact ok_inj ((par_itoa fun x hx => by have := within_mem h.2.1 x hx; omega).symm.trans g)
theorem par_at {l : List UInt8} {xs : List Int} (h : PolIs l xs) (k : Nat) (hk : k < (splitC 44 l).length) : ∃ v, Lib.parseIntB 64 ((splitC 44 l).getD k []) = .ok v := by
  rw [pol_words h] at hk ⊢
  rw [getD_ltS hk, List.getElem_map]
  have hx := within_mem h.2.1 _ (List.getElem_mem (by simpa using hk : k < xs.length))
  exact ⟨_, parse_itoa _ (by omega) (by omega)⟩
theorem pol_len {l : List UInt8} {xs : List Int} (h : PolIs l xs) : (splitC 44 l).length = 5 := by rw [pol_words h, List.length_map]; exact h.1
theorem par_ne {ys : List Int} (g : Par (splitC 44 []) ys) : False := by
  have e : splitC 44 [] = [[]] := by simp [splitC]
  rw [e] at g
  cases ys with
  | nil => cases g
  | cons y r => unfold Par at g; simp [Lib.parseIntB] at g

theorem own_made1 (w : World) (o : Obj) : ((w.alloc o).alloc (.cells #[] 2)).ownsRow (w.heap.size + 1) 2 1 (.slice (some ⟨w.heap.size + 1, 0, none⟩) 0 0) 0 (([] : List Int).map (Value.int .i64)) := by
  have h := World.ownsRow_made (e := 2) (size := 1) (base := (w.alloc o).heap.size) (w.alloc o) #[] 0 (Nat.le_refl _) (by unfold maxLen; omega) rfl
  have e : (w.alloc o).heap.size = w.heap.size + 1 := by simp
  rw [e] at h
  exact h
set_option maxHeartbeats 1000000 in
set_option maxRecDepth 100000 in
theorem implReadPolicy_any (s : ByteArray) (B : Nat) (w : World) (hs : s.size ≤ 1048576) (hT : Tab B w) (hD : DoorE w) (hM : DoorM w) :
    Calls Tryd.prog 5 #[.string s] w (PolEnd s.data.toList w) := by
  obtain ⟨i0, hi, hz0, hz1, hz2⟩ := info_parts Numbers.info64
  have HT := Lib.hid hT
  have HD := Lib.hid hD
  have HM := Lib.hid hM
  have HW : Hid (∀ x ∈ splitC 44 s.data.toList, x.length ≤ 1048576) := fun x hx => by
    have := splitC_word 44 _ x hx
    rw [show s.data.toList.length = s.size by simp] at this; omega
  have SP := Lib.hid (fun w hM => split_any s 44 w hs hM)
  have PA := Lib.hid (fun xs (h : PolIs s.data.toList xs) => par_at h)
  have PL := Lib.hid (fun xs (h : PolIs s.data.toList xs) => pol_len h)
  have PP := Lib.hid (fun xs ys (h : PolIs s.data.toList xs) (g : Par (splitC 44 s.data.toList) ys) => par_pol h g)
  have PE := Lib.hid (fun ys (g : Par (splitC 44 s.data.toList) ys) (e : s.data.toList = []) => par_ne (ys := ys) (by rw [e] at g; exact g))
  clear hT hD hM
  generalize splitC 44 s.data.toList = ws at *
  go_enter Tryd.func5, Tryd.ntmps5
  go_wp2_with fail
  refine (SP.out _ (HM.out.below (bl (b0 w _) (b0 _ _)))).mono ?_; rintro e w1 ⟨v, rfl, hr, hb1⟩
  obtain ⟨b, cap, rfl, hp, hn, hc, ⟨cur, hcur⟩, hx⟩ := hr
  have HC := Lib.hid hcur
  clear hcur
  obtain ⟨wA, hA, HBX, HBA, HB0, HO0⟩ : ∃ wA : World, Hid (wA.heap.size = w.heap.size + 1) ∧ Hid (Box5 wA w.heap.size 0 0 0 0 0) ∧ Hid (Below w.heap.size w wA) ∧ Hid (Below wA.heap.size wA w1) ∧ Hid (w1.ownsRow wA.heap.size 2 1 (.slice (some ⟨w.heap.size + 1, 0, none⟩) 0 0) 0 (([] : List Int).map (Value.int .i64))) :=
    ⟨_, by show _ = _; simp, box5_new w 0 0 0 0 0 23, b0 _ _, bl (b0 _ _) hb1, by
      show World.ownsRow _ _ _ _ _ _ _
      rw [show (w.alloc (.cells #[.int .i64 0, .int .i64 0, .int .i64 0, .int .i64 0, .int .i64 0] 23)).heap.size = w.heap.size + 1 by simp]
      exact Joins.own_below (own_made1 w _) hb1⟩
  have HX := Lib.hid hx
  clear hx hb1 SP
  go_wp2_with fail
  go_loopw [4, 14] (fun o i wr => ∃ (k cc : Nat) (ao : Option Addr) (xs : List Int), k ≤ ws.length ∧ k ≤ 5 ∧ o = .slice ao k cc ∧ i = .int .i64 k ∧ Hid (wr.ownsRow wA.heap.size 2 1 (.slice ao k cc) k (xs.map (Value.int .i64))) ∧ Hid (Below wA.heap.size wA wr) ∧ Hid (∀ i, i < ws.length → wr.cell? ⟨b, i, none⟩ = some (.string (S (ws.getD i [])))) ∧ Hid (wr.heap[b]? = some (.cells cur 9 (0, 0))) ∧ Hid (Par (ws.take k) xs)) (fun _ i _ => ws.length - (intOf i).toNat)
  case atStart => exact ⟨0, _, _, [], by omega, by omega, rfl, rfl, HO0.out, HB0.out, HX.out, HC.out, rfl⟩
  case round =>
    obtain ⟨k, cc, ao, xs, hk, hk5, rfl, rfl, HO, HB, HXr, HBL, HI⟩ := hrel
    by_cases hlt : k < ws.length
    · have hck : wr.cell? ⟨b, k, none⟩ = some (.string (S (ws.getD k []))) := HXr.out k hlt
      have PW : Hid (Calls Tryd.prog 11 #[.string (S (ws.getD k [])), .int .i64 10, .int .i64 64] wr (Prs (ws.getD k []) wr)) := by
        have := parse_any (S (ws.getD k [])) wr (by have := HW.out _ (List.getElem_mem hlt); rw [S_size, getD_ltS hlt]; omega) (HD.out.below (bl HBA.out HB.out))
        rw [S_list] at this; exact this
      have NB : Hid ((∀ u, Lib.parseIntB 64 (ws.getD k []) ≠ .ok u) → ∀ xs, ¬ PolIs s.data.toList xs) := fun h xs g => (PA.out xs g k hlt).elim fun v e => h v e
      have NT := Lib.hid (fun v e => par_snoc (v := v) hlt HI.out e)
      generalize ws.getD k [] = word at *
      have hki : (k : Int) < (ws.length : Int) := by omega
      have hk0 : (0 : Int) ≤ (k : Int) := by omega
      go_wp2_with fail
      refine PW.out.mono ?_; rintro e w2 ⟨n, x, rfl, n0, n1, hb2, hp⟩
      have HB2 := Lib.hid (bl HB.out hb2)
      have HO1 := Lib.hid (Joins.own_below HO.out hb2)
      have HX2 : Hid (∀ i, i < ws.length → w2.cell? ⟨b, i, none⟩ = some (.string (S (ws.getD i [])))) := fun i hi => (hb2.cell (p := ⟨b, i, none⟩) (lt_of_get HBL.out)).trans (HXr.out i hi)
      have HBL2 : Hid (w2.heap[b]? = some (.cells cur 9 (0, 0))) := (hb2.block b (lt_of_get HBL.out)).trans HBL.out
      clear hb2
      rcases hp with ⟨rfl, hp⟩ | ⟨⟨T1, N1, rfl⟩, hp⟩
      · have I2 := Lib.hid (NT.out n hp)
        clear hp
        by_cases h5 : k = 5
        · subst h5
          have R : Hid (∀ xs, ¬ PolIs s.data.toList xs) := fun xs g => by have := PL.out xs g; omega
          obtain ⟨m0, m1, m2, m3, m4, m5, m6⟩ := HBX.out.below HB2.out
          go_wp2_with fail
          refine bodyPost_ret (v := .tuple #[.agg #[.int .i64 0, .int .i64 0, .int .i64 0, .int .i64 0, .int .i64 0], .bool false]) (by simp [results, Tryd.results5, go_sem, m0, m1, m2, m3, m4]) rfl ?_
          exact pol_no R.out ((bl HBA.out HB2.out).setCell (by simp) _ |>.setCell (by simp) _ |>.setCell (by simp) _ |>.setCell (by simp) _ |>.setCell (by simp) _)
        · have hk6 : ((k : Int) == 5) = false := beq_eq_false_iff_ne.2 (by omega)
          have hk7 : k < 5 := by omega
          clear h5
          go_wp2_with (at_builtin; refine wpList_append_own _ rfl _ _ 28 rfl wA.heap.size 2 i0 (.int .i64 0) 1 8 Tryd.underlying28 hi hz0 hz1 hz2 rfl (by decide) _ _ _ rfl (HO1.out.alloc _) ⟨w2.heap.size, 0, none⟩ 1 1 [.int .i64 n] rfl rfl ?c1 ?c2 ?c3 ?c4 ?c5 ?c6)
          case c1 =>
            intro j u hj; match j, hj with | 0, hj => simp at hj; subst hj; simp [Addr.add]
          case c2 => intro u hu; simp at hu; subst hu; rfl
          case c3 => unfold maxLen; omega
          case c4 => omega
          case c5 => have := HB2.out.size; simp; omega
          intro v' w9 hown' hgrow hnil'
          obtain ⟨ao', c', rfl⟩ := own_shape hown'
          have HO9 := Lib.hid hown'
          have HB9 := Lib.hid (app_step HB2.out HB2.out.size HO1.out hgrow).1
          have hne := own_ne HO1.out HBL2.out (by decide)
          have HX9 : Hid (∀ i, i < ws.length → w9.cell? ⟨b, i, none⟩ = some (.string (S (ws.getD i [])))) := fun i hi => hgrow.cell (a := ⟨b, i, none⟩) (((b0 w2 _).cell (p := ⟨b, i, none⟩) (lt_of_get HBL2.out)).trans (HX2.out i hi)) (fun e => hne e.symm)
          have HBL9 : Hid (w9.heap[b]? = some (.cells cur 9 (0, 0))) := app_block HO1.out hgrow hne HBL2.out
          clear hown' hgrow hnil' hne
          go_wp2
          go_roundw
          case rel => exact ⟨k + 1, c', ao', xs ++ [n], by omega, by omega, rfl, by go_num, by show World.ownsRow _ _ _ _ _ _ _; rw [List.map_append]; exact HO9.out, HB9.out, HX9.out, HBL9.out, I2.out⟩
          case measure => simp [intOf] <;> omega
      · have R := Lib.hid (NB.out hp)
        clear hp
        obtain ⟨m0, m1, m2, m3, m4, m5, m6⟩ := HBX.out.below HB2.out
        go_wp2_with fail
        refine bodyPost_ret (v := .tuple #[.agg #[.int .i64 0, .int .i64 0, .int .i64 0, .int .i64 0, .int .i64 0], .bool false]) (by simp [results, Tryd.results5, go_sem, m0, m1, m2, m3, m4]) rfl ?_
        exact pol_no R.out ((bl HBA.out HB2.out).setCell (by simp) _ |>.setCell (by simp) _ |>.setCell (by simp) _ |>.setCell (by simp) _ |>.setCell (by simp) _)
    · obtain rfl : k = ws.length := by omega
      have I2 : Hid (Par ws xs) := by have := HI.out; rw [List.take_length] at this; exact this
      have HS := Lib.hid (sl_of_own (n := ws.length) (xs := xs) HO.out (by rw [par_len I2.out]; omega))
      have HLN := Lib.hid (par_len I2.out)
      obtain ⟨z, hz, hzz⟩ : ∃ z : Nat, IntKind.i64.wrap (5 - (ws.length : Int)) = (z : Int) ∧ Hid (z = 5 - ws.length) := ⟨5 - ws.length, by rw [IntKind.wrap_i64]; omega, rfl⟩
      rcases HS.out.rd with ⟨_, h⟩ | ⟨bk, off, cap2, hv, _, hc1, hc2, hbk, hx⟩
      · have := HLN.out; rw [h] at this; simp at this; omega
      injection hv with hv1 hv2 hv3
      subst hv1
      have C1 : Hid (Cells wr bk off xs) := ⟨hbk, hx⟩
      have IP : Hid (polT (xs ++ List.replicate z 0) = s.data.toList → PolIs s.data.toList (xs ++ List.replicate z 0)) := fun h => by
        cases hw : within (-1000000000000) 1000000000000 (xs ++ List.replicate z 0) with
        | true => exact ⟨by rw [List.length_append, List.length_replicate, HLN.out, hzz.out]; omega, hw, by rw [← h, polT_yes hw]⟩
        | false => rw [polT_no hw] at h; exact (PE.out xs I2.out h.symm).elim
      have IN : Hid (polT (xs ++ List.replicate z 0) ≠ s.data.toList → ∀ ys, ¬ PolIs s.data.toList ys) := fun h ys g => by
        have e := PP.out ys xs g I2.out
        subst e
        have e2 := pol_len g
        have e3 := PL.out ys g
        have e4 : z = 0 := by rw [hzz.out]; omega
        rw [e4] at h
        rw [List.replicate_zero, List.append_nil, polT_yes g.2.1] at h
        exact h g.2.2.symm
      have HL5 : Hid ((xs ++ List.replicate z 0).length = 5) := by show _ = _; rw [List.length_append, List.length_replicate, HLN.out, hzz.out]; omega
      clear hx hc1 hc2 hv2 hv3 HX HO0 HB0 HXr HBL HI HO HS PA PL PP PE HW HC HD I2
      go_wp2_with (at_make; refine wpList_make_full _ rfl _ _ 28 rfl wr.heap.size 2 i0 (.int .i64 0) 1 Tryd.underlying28 hi hz0 hz1 .i64 .i64 _ _ z rfl rfl ?m1 ?m2 ?m3 ?m4 ?m5 ?m6)
      case m1 => rfl
      case m2 => rfl
      case m3 => rw [hz2]; have := hzz.out; omega
      case m4 => have := hzz.out; unfold maxLen; omega
      case m5 => exact Nat.le_refl _
      intro wz hown hg
      have hown := zeros_own (by rw [Nat.mul_one]; exact hown)
      have HZS := Lib.hid (sl_of_own hown (by rw [List.length_replicate]; have := hzz.out; omega))
      have HBZ := Lib.hid (made_below hg)
      clear hown hg
      go_wp2_with fail
      rcases HZS.out with ⟨h, _⟩ | ⟨b2, o2, c2, cur2, hv, _, _, _, _, hb2, _, hx2⟩
      · cases h
      have C2 : Hid (Cells wz b2 o2 (List.replicate z 0)) := ⟨lt_of_get hb2, fun i hi => cell_of_block hb2 (hx2 i hi)⟩
      injection hv with hv1 hv2 hv3
      injection hv1 with hv1
      injection hv1 with hv4 hv5
      subst hv4 hv5
      clear hv2 hb2 hx2
      have HBM := Lib.hid (b0 wz (.cells #[.slice (some ⟨bk, off, none⟩) ws.length cc, .slice (some ⟨wr.heap.size, 0, none⟩) z z] 28))
      refine (concat2 wz.heap.size bk off cc wr.heap.size 0 z xs (List.replicate z 0) _ (by rw [HLN.out]; simp [go_sem]) (by rw [List.length_replicate]; simp [go_sem]) (by simp) ((C1.out.below HBZ.out).below HBM.out) (C2.out.below HBM.out) (by rw [List.length_replicate, HLN.out]; have := hzz.out; omega) (by rw [List.length_replicate, HLN.out]; have := hzz.out; omega)).mono ?_
      rintro e w5 ⟨v5, rfl, hs5, hb5⟩
      have HB5 := Lib.hid (bl (bl (bl HB.out HBZ.out) HBM.out) hb5)
      have BX5 := Lib.hid (HBX.out.below HB5.out)
      clear hb5 C1 C2 HBM HBZ HB HZS
      generalize xs ++ List.replicate z 0 = ys at *
      obtain ⟨a, b, c, d, f, rfl⟩ := len5 HL5.out
      rcases hs5.rd with ⟨_, h⟩ | ⟨bk5, off5, cap5, rfl, _, hcap, hcap2, hbk5, hx⟩
      · cases h
      obtain ⟨x0, x1, x2, x3, x4⟩ := cells5 hx
      clear hx hs5 HL5
      simp only [List.length_cons, List.length_nil] at hcap ⊢
      go_upto_region 11 with fail
      go_cut [9] (Five w5 a b c d f)
      case first =>
        go_region
        all_goals (go_wp2_with fail; go_meet; exact ⟨rfl, by go_grown, (box5_new w5 a b c d f _).drew⟩)
      case rest =>
        obtain ⟨rfl, hbx, hbox⟩ := hcut
        have HB6 := Lib.hid (bl HBA.out (bl HB5.out hbx))
        have HX := Lib.hid hbox
        have BX6 := Lib.hid (BX5.out.below hbx)
        obtain ⟨p0, p1, p2, p3, p4, p5, p6⟩ := hbox
        clear hbx x0 x1 x2 x3 x4 HBA HB5 BX5 HBX
        go_wp2_with fail
        refine (implPolicyText_any a b c d f B _ (HT.out.below HB6.out) (HM.out.below HB6.out)).mono ?_
        rintro e w7 ⟨rfl, hb7⟩
        have HBB := Lib.hid (bl HB6.out hb7)
        obtain ⟨m0, m1, m2, m3, m4, m5, m6⟩ := BX6.out.below hb7
        have HX7 := HX.out.below hb7
        clear p0 p1 p2 p3 p4 p5 p6 hb7
        obtain ⟨p0, p1, p2, p3, p4, p5, p6⟩ := HX7
        clear HX BX6 HB6 HT HM
        by_cases hA : polT [a, b, c, d, f] = s.data.toList
        · have Q1 : Hid (((S (polT [a, b, c, d, f])).toList == s.toList) = true) := (Lib.bytes_beq_iff _ _).2 (by rw [hA]; rfl)
          have R := Lib.hid (IP.out hA)
          clear hA IP IN
          generalize polT [a, b, c, d, f] = tx at *
          have q1 := Q1.out
          go_wp2_with fail
          refine bodyPost_ret (v := .tuple #[.agg #[.int .i64 a, .int .i64 b, .int .i64 c, .int .i64 d, .int .i64 f], .bool true]) (by simp [results, Tryd.results5, go_sem, m0, m1, m2, m3, m4]) rfl ?_
          exact pol_yes R.out (HBB.out.setCell (by simp) _ |>.setCell (by simp) _ |>.setCell (by simp) _ |>.setCell (by simp) _ |>.setCell (by simp) _)
        · have Q1 : Hid (((S (polT [a, b, c, d, f])).toList == s.toList) = false) := (Lib.bytes_beq_false_iff _ _).2 (fun e => hA (by rw [← e]; exact (S_list _).symm))
          have R := Lib.hid (IN.out hA)
          clear hA IP IN
          generalize polT [a, b, c, d, f] = tx at *
          have q1 := Q1.out
          go_wp2_with fail
          refine bodyPost_ret (v := .tuple #[.agg #[.int .i64 0, .int .i64 0, .int .i64 0, .int .i64 0, .int .i64 0], .bool false]) (by simp [results, Tryd.results5, go_sem, m0, m1, m2, m3, m4]) rfl ?_
          exact pol_no R.out (HBB.out.setCell (by simp) _ |>.setCell (by simp) _ |>.setCell (by simp) _ |>.setCell (by simp) _ |>.setCell (by simp) _)
end Go.Proofs.YtfnmomdjmhbffaaDoor.ReadPols
