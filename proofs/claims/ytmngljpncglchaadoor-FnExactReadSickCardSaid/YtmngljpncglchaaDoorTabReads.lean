/-
  Contracts of ReadTable and ReadSick of both packages.
  Conditions: the library's table, its errors and MaxLen read (Tab, DoorE, DoorM).
-/
import Derived.Test.YtmngljpncglchaaDoorTabPlain
import Derived.Handy
import Derived.RegionTactic
namespace Go.Proofs.YtmngljpncglchaaDoor.TabReads
open Go.RowKit Mem Texts TextPlain ReadPlain Reads Doors Words Numbers TabPlain
set_option linter.unusedVariables false

theorem rd_zero {w : World} {b off c : Nat} (h : b < w.heap.size) (hc : c ≤ 9223372036854775807) : Rd w (.slice (some ⟨b, off, none⟩) 0 c) [] :=
  .inr ⟨b, off, c, rfl, by simp, by simp, hc, h, fun i hi => by simp at hi⟩
--BEGIN
set_option maxHeartbeats 1000000 in
set_option maxRecDepth 100000 in
theorem specReadTable_any (s : ByteArray) (w : World) (hs : s.size ≤ 1048576) :
    Calls Tryd.prog 54 #[.string s] w (TabRes LifeTables.ltB s.data.toList w) := by
  have HW : Hid (∀ x ∈ splitC 32 s.data.toList, x.length ≤ 1048576) := fun x hx => by
    have := splitC_word 32 _ x hx
    rw [show s.data.toList.length = s.size by simp] at this; omega
  have SP := Lib.hid (fun w => l01Split_any s 32 32 w hs rfl)
  go_enter Tryd.func54, Tryd.ntmps54
  go_wp2_with fail
  refine (SP.out _).mono ?_; rintro e w1 ⟨v, rfl, hr, hb1⟩
  have HB1 := Lib.hid (bl (b0 w _) hb1)
  have BX1 := Lib.hid ((box2_new w (.int .i64 0) (.slice none 0 0) 39).below hb1)
  have ⟨hc1, hf1⟩ := bcell hb1
  have hz1 : w.heap.size < w1.heap.size := by have := hb1.size; simp at this; omega
  have HR := Lib.hid hr
  clear hr hb1
  go_wp2_with fail
  refine (l01Numbers_any v _ w1 HR.out HW.out).mono ?_; rintro e w2 ⟨u, ok, rfl, hb2, hn⟩
  have HB2 := Lib.hid (bl HB1.out hb2)
  have BX2 := Lib.hid (BX1.out.below hb2)
  have ⟨hc2, hf2⟩ := bcell hb2
  have hz2 : w.heap.size < w2.heap.size := by have := hb2.size; omega
  clear hb2
  rcases hn with ⟨rfl, xs, hsl, hI⟩ | ⟨rfl, rfl, hbad⟩
  · cases xs with
    | nil => exact absurd (hI.1) (splitC_ne _ _)
    | cons y ys =>
      obtain ⟨b, off, n, c, rfl⟩ := sl_some hsl
      obtain ⟨ht, hy, hn1, hn2, hn3, hb⟩ := sl_tail hsl
      have TN := Lib.hid (tab_nums fine_lt hI (by omega) (by omega))
      have HN1 := Lib.hid hn1
      cases ys with
      | nil =>
        have R := Lib.hid (TN.out.2 (tab_short fine_lt))
        obtain rfl : n = 1 := hn1
        clear hsl ht hI hb hy
        go_wp2_with fail
        refine bodyPost_ret (v := .tuple #[.agg #[.int .i64 0, .slice none 0 0], .bool false]) (by simp [results, Tryd.results54, go_sem, hc1, hc2, hz1]) rfl ?_
        exact tab_ret R.out (sl_nil _ _) (HB2.out.setCell (by simp) _ |>.setCell (by simp) _)
      | cons z r =>
        have HT := Lib.hid ht
        have h2n : 2 ≤ n := by rw [hn1]; simp
        clear hsl ht hI hn1
        go_wp2_with fail
        go_region
        all_goals
          go_wp2_with fail
          refine (LifeTables.specIsLifeTable_any _ _ (z :: r) _ (HT.out.rd.below ?hb)).mono ?_
          case hb => go_grown
          rintro e w3 ⟨rfl, hb3⟩
          have HX3 : Hid (Below w2.heap.size w2 w3) := bl (a := w2) (by go_grown) hb3
          have ⟨hc3, hf3⟩ := bcell hb3
          have hz3 : w2.heap.size < w3.heap.size := by have := hb3.size; simp at this; omega
          obtain ⟨m0, m1, m2⟩ := BX2.out.below HX3.out
          clear hb3
          cases hp : LifeTables.ltB y (z :: r) with
          | true =>
            have R := Lib.hid (TN.out.1 hp)
            clear hp
            go_wp2_with fail
            refine bodyPost_ret (v := .tuple #[.agg #[.int .i64 y, .slice (some ⟨b, off + 1, none⟩) (n - 1) (c - 1)], .bool true]) (by simp [results, Tryd.results54, go_sem, m0, m1]) rfl ?_
            exact tab_ret R.out (sl_mono (by omega) (sl_setCell (sl_setCell (HT.out.below HX3.out) (by simp; omega) _) (by simp; omega) _)) ((bl HB2.out HX3.out).setCell (by simp) _ |>.setCell (by simp) _)
          | false =>
            have R := Lib.hid (TN.out.2 hp)
            clear hp
            go_wp2_with fail
            refine bodyPost_ret (v := .tuple #[.agg #[.int .i64 0, .slice none 0 0], .bool false]) (by simp [results, Tryd.results54, go_sem, m0, m1]) rfl ?_
            exact tab_ret R.out (sl_nil _ _) ((bl HB2.out HX3.out).setCell (by simp) _ |>.setCell (by simp) _)
  · have R := Lib.hid (tab_bad fine_lt hbad (by omega) (by omega))
    clear hbad
    go_wp2_with fail
    refine bodyPost_ret (v := .tuple #[.agg #[.int .i64 0, .slice none 0 0], .bool false]) (by simp [results, Tryd.results54, go_sem, hc1, hc2, hz1]) rfl ?_
    exact tab_ret R.out (sl_nil _ _) (HB2.out.setCell (by simp) _ |>.setCell (by simp) _)
set_option maxHeartbeats 1000000 in
set_option maxRecDepth 100000 in
theorem implReadTable_any (s : ByteArray) (B : Nat) (w : World) (hs : s.size ≤ 1048576) (hT : Tab B w) (hD : DoorE w) (hM : DoorM w) :
    Calls Tryd.prog 55 #[.string s] w (TabRes LifeTables.ltB s.data.toList w) := by
  have RJ := Lib.hid (fun o => readJoined_any s B (w.alloc o) hs (hT.below (b0 w o)) (hD.below (b0 w o)) (hM.below (b0 w o)))
  clear hT hD hM
  go_enter Tryd.func55, Tryd.ntmps55
  go_wp2_with fail
  refine (RJ.out _).mono ?_; rintro e w2 ⟨u, ok, rfl, hb2, hn⟩
  have HB2 := Lib.hid (bl (b0 w _) hb2)
  have BX2 := Lib.hid ((box2_new w (.int .i64 0) (.slice none 0 0) 39).below hb2)
  have ⟨hc2, hf2⟩ := bcell hb2
  have hz2 : w.heap.size < w2.heap.size := by have := hb2.size; simp at this; omega
  clear hb2 RJ
  rcases hn with ⟨rfl, xs, hsl0, hI⟩ | ⟨rfl, rfl, hbad⟩
  · have hsl : Sl w2 (w.heap.size + 1) u xs := by simpa using hsl0
    clear hsl0
    cases xs with
    | nil => exact absurd (hI.1) (splitC_ne _ _)
    | cons y ys =>
      obtain ⟨b, off, n, c, rfl⟩ := sl_some hsl
      obtain ⟨ht, hy, hn1, hn2, hn3, hb⟩ := sl_tail hsl
      have TN := Lib.hid (tab_nums fine_lt hI (by omega) (by omega))
      cases ys with
      | nil =>
        have R := Lib.hid (TN.out.2 (tab_short fine_lt))
        obtain rfl : n = 1 := hn1
        clear hsl ht hI
        by_cases hc1 : c = 1
        · subst hc1
          go_wp2_with fail
          go_region
          all_goals
            go_wp2_with fail
            refine (LifeTables.implIsLifeTable_any _ _ [] _ (rd_zero ?hr (by omega))).mono ?_
            case hr => simp; omega
            rintro e w3 ⟨rfl, hb3⟩
            rw [tab_short fine_lt]
            have HX3 : Hid (Below w2.heap.size w2 w3) := bl (a := w2) (by go_grown) hb3
            obtain ⟨m0, m1, m2⟩ := BX2.out.below HX3.out
            have ⟨hc3, hf3⟩ := bcell hb3
            clear hb3
            go_wp2_with fail
            refine bodyPost_ret (v := .tuple #[.agg #[.int .i64 0, .slice none 0 0], .bool false]) (by simp [results, Tryd.results55, go_sem, m0, m1]) rfl ?_
            exact tab_ret R.out (sl_nil _ _) ((bl HB2.out HX3.out).setCell (by simp) _ |>.setCell (by simp) _)
        · have hc2' : 2 ≤ c := by omega
          clear hc1 hn2
          go_wp2_with fail
          go_region
          all_goals
            go_wp2_with fail
            refine (LifeTables.implIsLifeTable_any _ _ [] _ (rd_zero ?hr (by omega))).mono ?_
            case hr => simp; omega
            rintro e w3 ⟨rfl, hb3⟩
            rw [tab_short fine_lt]
            have HX3 : Hid (Below w2.heap.size w2 w3) := bl (a := w2) (by go_grown) hb3
            obtain ⟨m0, m1, m2⟩ := BX2.out.below HX3.out
            have ⟨hc3, hf3⟩ := bcell hb3
            clear hb3
            go_wp2_with fail
            refine bodyPost_ret (v := .tuple #[.agg #[.int .i64 0, .slice none 0 0], .bool false]) (by simp [results, Tryd.results55, go_sem, m0, m1]) rfl ?_
            exact tab_ret R.out (sl_nil _ _) ((bl HB2.out HX3.out).setCell (by simp) _ |>.setCell (by simp) _)
      | cons z r =>
        have HT := Lib.hid ht
        have h2n : 2 ≤ n := by rw [hn1]; simp
        clear hsl ht hI hn1
        go_wp2_with fail
        go_region
        all_goals
          go_wp2_with fail
          refine (LifeTables.implIsLifeTable_any _ _ (z :: r) _ (HT.out.rd.below ?hb)).mono ?_
          case hb => go_grown
          rintro e w3 ⟨rfl, hb3⟩
          have HX3 : Hid (Below w2.heap.size w2 w3) := bl (a := w2) (by go_grown) hb3
          have ⟨hc3, hf3⟩ := bcell hb3
          have hz3 : w2.heap.size < w3.heap.size := by have := hb3.size; simp at this; omega
          obtain ⟨m0, m1, m2⟩ := BX2.out.below HX3.out
          clear hb3
          cases hp : LifeTables.ltB y (z :: r) with
          | true =>
            have R := Lib.hid (TN.out.1 hp)
            clear hp
            go_wp2_with fail
            refine bodyPost_ret (v := .tuple #[.agg #[.int .i64 y, .slice (some ⟨b, off + 1, none⟩) (n - 1) (c - 1)], .bool true]) (by simp [results, Tryd.results55, go_sem, m0, m1]) rfl ?_
            exact tab_ret R.out (sl_mono (by omega) (sl_setCell (sl_setCell (HT.out.below HX3.out) (by simp) _) (by simp) _)) ((bl HB2.out HX3.out).setCell (by simp) _ |>.setCell (by simp) _)
          | false =>
            have R := Lib.hid (TN.out.2 hp)
            clear hp
            go_wp2_with fail
            refine bodyPost_ret (v := .tuple #[.agg #[.int .i64 0, .slice none 0 0], .bool false]) (by simp [results, Tryd.results55, go_sem, m0, m1]) rfl ?_
            exact tab_ret R.out (sl_nil _ _) ((bl HB2.out HX3.out).setCell (by simp) _ |>.setCell (by simp) _)
  · have R := Lib.hid (tab_bad fine_lt hbad (by omega) (by omega))
    obtain ⟨m0, m1, m2⟩ := BX2.out
    clear hbad
    go_wp2_with fail
    refine bodyPost_ret (v := .tuple #[.agg #[.int .i64 0, .slice none 0 0], .bool false]) (by simp [results, Tryd.results55, go_sem, m0, m1]) rfl ?_
    exact tab_ret R.out (sl_nil _ _) (HB2.out.setCell (by simp) _ |>.setCell (by simp) _)
--SICK
set_option maxHeartbeats 1000000 in
set_option maxRecDepth 100000 in
theorem specReadSick_any (s : ByteArray) (w : World) (hs : s.size ≤ 1048576) :
    Calls Tryd.prog 58 #[.string s] w (TabRes SickTables.skB s.data.toList w) := by
  have HW : Hid (∀ x ∈ splitC 32 s.data.toList, x.length ≤ 1048576) := fun x hx => by
    have := splitC_word 32 _ x hx
    rw [show s.data.toList.length = s.size by simp] at this; omega
  have SP := Lib.hid (fun w => l01Split_any s 32 32 w hs rfl)
  go_enter Tryd.func58, Tryd.ntmps58
  go_wp2_with fail
  refine (SP.out _).mono ?_; rintro e w1 ⟨v, rfl, hr, hb1⟩
  have HB1 := Lib.hid (bl (b0 w _) hb1)
  have BX1 := Lib.hid ((box2_new w (.int .i64 0) (.slice none 0 0) 47).below hb1)
  have ⟨hc1, hf1⟩ := bcell hb1
  have hz1 : w.heap.size < w1.heap.size := by have := hb1.size; simp at this; omega
  have HR := Lib.hid hr
  clear hr hb1
  go_wp2_with fail
  refine (l01Numbers_any v _ w1 HR.out HW.out).mono ?_; rintro e w2 ⟨u, ok, rfl, hb2, hn⟩
  have HB2 := Lib.hid (bl HB1.out hb2)
  have BX2 := Lib.hid (BX1.out.below hb2)
  have ⟨hc2, hf2⟩ := bcell hb2
  have hz2 : w.heap.size < w2.heap.size := by have := hb2.size; omega
  clear hb2
  rcases hn with ⟨rfl, xs, hsl, hI⟩ | ⟨rfl, rfl, hbad⟩
  · cases xs with
    | nil => exact absurd (hI.1) (splitC_ne _ _)
    | cons y ys =>
      obtain ⟨b, off, n, c, rfl⟩ := sl_some hsl
      obtain ⟨ht, hy, hn1, hn2, hn3, hb⟩ := sl_tail hsl
      have TN := Lib.hid (tab_nums fine_sk hI (by omega) (by omega))
      have HN1 := Lib.hid hn1
      cases ys with
      | nil =>
        have R := Lib.hid (TN.out.2 (tab_short fine_sk))
        obtain rfl : n = 1 := hn1
        clear hsl ht hI hb hy
        go_wp2_with fail
        refine bodyPost_ret (v := .tuple #[.agg #[.int .i64 0, .slice none 0 0], .bool false]) (by simp [results, Tryd.results58, go_sem, hc1, hc2, hz1]) rfl ?_
        exact tab_ret R.out (sl_nil _ _) (HB2.out.setCell (by simp) _ |>.setCell (by simp) _)
      | cons z r =>
        have HT := Lib.hid ht
        have h2n : 2 ≤ n := by rw [hn1]; simp
        clear hsl ht hI hn1
        go_wp2_with fail
        go_region
        all_goals
          go_wp2_with fail
          refine (SickTables.specIsSickTable_any _ _ (z :: r) _ (HT.out.rd.below ?hb)).mono ?_
          case hb => go_grown
          rintro e w3 ⟨rfl, hb3⟩
          have HX3 : Hid (Below w2.heap.size w2 w3) := bl (a := w2) (by go_grown) hb3
          have ⟨hc3, hf3⟩ := bcell hb3
          have hz3 : w2.heap.size < w3.heap.size := by have := hb3.size; simp at this; omega
          obtain ⟨m0, m1, m2⟩ := BX2.out.below HX3.out
          clear hb3
          cases hp : SickTables.skB y (z :: r) with
          | true =>
            have R := Lib.hid (TN.out.1 hp)
            clear hp
            go_wp2_with fail
            refine bodyPost_ret (v := .tuple #[.agg #[.int .i64 y, .slice (some ⟨b, off + 1, none⟩) (n - 1) (c - 1)], .bool true]) (by simp [results, Tryd.results58, go_sem, m0, m1]) rfl ?_
            exact tab_ret R.out (sl_mono (by omega) (sl_setCell (sl_setCell (HT.out.below HX3.out) (by simp; omega) _) (by simp; omega) _)) ((bl HB2.out HX3.out).setCell (by simp) _ |>.setCell (by simp) _)
          | false =>
            have R := Lib.hid (TN.out.2 hp)
            clear hp
            go_wp2_with fail
            refine bodyPost_ret (v := .tuple #[.agg #[.int .i64 0, .slice none 0 0], .bool false]) (by simp [results, Tryd.results58, go_sem, m0, m1]) rfl ?_
            exact tab_ret R.out (sl_nil _ _) ((bl HB2.out HX3.out).setCell (by simp) _ |>.setCell (by simp) _)
  · have R := Lib.hid (tab_bad fine_sk hbad (by omega) (by omega))
    clear hbad
    go_wp2_with fail
    refine bodyPost_ret (v := .tuple #[.agg #[.int .i64 0, .slice none 0 0], .bool false]) (by simp [results, Tryd.results58, go_sem, hc1, hc2, hz1]) rfl ?_
    exact tab_ret R.out (sl_nil _ _) (HB2.out.setCell (by simp) _ |>.setCell (by simp) _)
set_option maxHeartbeats 1000000 in
set_option maxRecDepth 100000 in
theorem implReadSick_any (s : ByteArray) (B : Nat) (w : World) (hs : s.size ≤ 1048576) (hT : Tab B w) (hD : DoorE w) (hM : DoorM w) :
    Calls Tryd.prog 59 #[.string s] w (TabRes SickTables.skB s.data.toList w) := by
  have RJ := Lib.hid (fun o => readJoined_any s B (w.alloc o) hs (hT.below (b0 w o)) (hD.below (b0 w o)) (hM.below (b0 w o)))
  clear hT hD hM
  go_enter Tryd.func59, Tryd.ntmps59
  go_wp2_with fail
  refine (RJ.out _).mono ?_; rintro e w2 ⟨u, ok, rfl, hb2, hn⟩
  have HB2 := Lib.hid (bl (b0 w _) hb2)
  have BX2 := Lib.hid ((box2_new w (.int .i64 0) (.slice none 0 0) 47).below hb2)
  have ⟨hc2, hf2⟩ := bcell hb2
  have hz2 : w.heap.size < w2.heap.size := by have := hb2.size; simp at this; omega
  clear hb2 RJ
  rcases hn with ⟨rfl, xs, hsl0, hI⟩ | ⟨rfl, rfl, hbad⟩
  · have hsl : Sl w2 (w.heap.size + 1) u xs := by simpa using hsl0
    clear hsl0
    cases xs with
    | nil => exact absurd (hI.1) (splitC_ne _ _)
    | cons y ys =>
      obtain ⟨b, off, n, c, rfl⟩ := sl_some hsl
      obtain ⟨ht, hy, hn1, hn2, hn3, hb⟩ := sl_tail hsl
      have TN := Lib.hid (tab_nums fine_sk hI (by omega) (by omega))
      cases ys with
      | nil =>
        have R := Lib.hid (TN.out.2 (tab_short fine_sk))
        obtain rfl : n = 1 := hn1
        clear hsl ht hI
        by_cases hc1 : c = 1
        · subst hc1
          go_wp2_with fail
          go_region
          all_goals
            go_wp2_with fail
            refine (SickTables.implIsSickTable_any _ _ [] _ (rd_zero ?hr (by omega))).mono ?_
            case hr => simp; omega
            rintro e w3 ⟨rfl, hb3⟩
            rw [tab_short fine_sk]
            have HX3 : Hid (Below w2.heap.size w2 w3) := bl (a := w2) (by go_grown) hb3
            obtain ⟨m0, m1, m2⟩ := BX2.out.below HX3.out
            have ⟨hc3, hf3⟩ := bcell hb3
            clear hb3
            go_wp2_with fail
            refine bodyPost_ret (v := .tuple #[.agg #[.int .i64 0, .slice none 0 0], .bool false]) (by simp [results, Tryd.results59, go_sem, m0, m1]) rfl ?_
            exact tab_ret R.out (sl_nil _ _) ((bl HB2.out HX3.out).setCell (by simp) _ |>.setCell (by simp) _)
        · have hc2' : 2 ≤ c := by omega
          clear hc1 hn2
          go_wp2_with fail
          go_region
          all_goals
            go_wp2_with fail
            refine (SickTables.implIsSickTable_any _ _ [] _ (rd_zero ?hr (by omega))).mono ?_
            case hr => simp; omega
            rintro e w3 ⟨rfl, hb3⟩
            rw [tab_short fine_sk]
            have HX3 : Hid (Below w2.heap.size w2 w3) := bl (a := w2) (by go_grown) hb3
            obtain ⟨m0, m1, m2⟩ := BX2.out.below HX3.out
            have ⟨hc3, hf3⟩ := bcell hb3
            clear hb3
            go_wp2_with fail
            refine bodyPost_ret (v := .tuple #[.agg #[.int .i64 0, .slice none 0 0], .bool false]) (by simp [results, Tryd.results59, go_sem, m0, m1]) rfl ?_
            exact tab_ret R.out (sl_nil _ _) ((bl HB2.out HX3.out).setCell (by simp) _ |>.setCell (by simp) _)
      | cons z r =>
        have HT := Lib.hid ht
        have h2n : 2 ≤ n := by rw [hn1]; simp
        clear hsl ht hI hn1
        go_wp2_with fail
        go_region
        all_goals
          go_wp2_with fail
          refine (SickTables.implIsSickTable_any _ _ (z :: r) _ (HT.out.rd.below ?hb)).mono ?_
          case hb => go_grown
          rintro e w3 ⟨rfl, hb3⟩
          have HX3 : Hid (Below w2.heap.size w2 w3) := bl (a := w2) (by go_grown) hb3
          have ⟨hc3, hf3⟩ := bcell hb3
          have hz3 : w2.heap.size < w3.heap.size := by have := hb3.size; simp at this; omega
          obtain ⟨m0, m1, m2⟩ := BX2.out.below HX3.out
          clear hb3
          cases hp : SickTables.skB y (z :: r) with
          | true =>
            have R := Lib.hid (TN.out.1 hp)
            clear hp
            go_wp2_with fail
            refine bodyPost_ret (v := .tuple #[.agg #[.int .i64 y, .slice (some ⟨b, off + 1, none⟩) (n - 1) (c - 1)], .bool true]) (by simp [results, Tryd.results59, go_sem, m0, m1]) rfl ?_
            exact tab_ret R.out (sl_mono (by omega) (sl_setCell (sl_setCell (HT.out.below HX3.out) (by simp) _) (by simp) _)) ((bl HB2.out HX3.out).setCell (by simp) _ |>.setCell (by simp) _)
          | false =>
            have R := Lib.hid (TN.out.2 hp)
            clear hp
            go_wp2_with fail
            refine bodyPost_ret (v := .tuple #[.agg #[.int .i64 0, .slice none 0 0], .bool false]) (by simp [results, Tryd.results59, go_sem, m0, m1]) rfl ?_
            exact tab_ret R.out (sl_nil _ _) ((bl HB2.out HX3.out).setCell (by simp) _ |>.setCell (by simp) _)
  · have R := Lib.hid (tab_bad fine_sk hbad (by omega) (by omega))
    obtain ⟨m0, m1, m2⟩ := BX2.out
    clear hbad
    go_wp2_with fail
    refine bodyPost_ret (v := .tuple #[.agg #[.int .i64 0, .slice none 0 0], .bool false]) (by simp [results, Tryd.results59, go_sem, m0, m1]) rfl ?_
    exact tab_ret R.out (sl_nil _ _) (HB2.out.setCell (by simp) _ |>.setCell (by simp) _)
--DONE
end Go.Proofs.YtmngljpncglchaaDoor.TabReads
