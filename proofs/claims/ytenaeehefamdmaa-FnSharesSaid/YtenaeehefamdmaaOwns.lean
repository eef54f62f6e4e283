/-
  Contracts of copies of slices and of classes (the reference's l01Own, l13Own, the program's clone).
  Conditions: as each contract says.
-/
import Derived.Test.YtenaeehefamdmaaMarks
import Derived.Test.YtenaeehefamdmaaConcats
import Derived.Test.YtenaeehefamdmaaShelf
import Derived.Laws.AppendOwnNone
import Derived.Deep.RegionHeld3
import Derived.Deep.RegionWith
import Derived.Deep.DeepCutAuto
namespace Go.Proofs.Ytenaeehefamdmaa.Owns
open Go.RowKit Mem Concats
set_option linter.unusedVariables false

def OwnEnd (xs : List Int) (w : World) (e : Ending) (w' : World) : Prop := ∃ u, e = .returned u ∧ Sl w' w.heap.size u xs ∧ Below w.heap.size w w'

set_option maxHeartbeats 1000000 in
set_option maxRecDepth 100000 in
theorem l01Own_any (v : Value) (xs : List Int) (w : World) (h : Rd w v xs) (hn : xs.length ≤ 1000000) :
    Calls Try.prog 51 #[v] w (OwnEnd xs w) := by
  obtain ⟨i0, hi, hz0, hz1, hz2⟩ := info_parts info64
  have HO : Hid ((w.alloc (.cells #[] 2)).ownsRow w.heap.size 2 1 (.slice (some ⟨w.heap.size, 0, none⟩) 0 0) 0 (([] : List Int).map (Value.int .i64))) := World.ownsRow_made w #[] 0 (Nat.le_refl _) (by unfold maxLen; omega) rfl
  rcases h with ⟨rfl, rfl⟩ | ⟨b, off, cap, rfl, hn', hl, hm, hb, hx⟩
  · go_enter Try.func51, Try.ntmps51
    go_wp2_with (at_builtin; refine wpList_append_own_none rfl _ _ 22 rfl w.heap.size 2 i0 1 Try.underlying22 hi _ 0 [] rfl HO.out rfl ?_)
    go_ret
    exact ⟨_, rfl, sl_of_own (xs := []) HO.out (by simp), b0 _ _⟩
  · have HX : Hid (Cells w b off xs) := ⟨hb, hx⟩
    clear hx
    go_enter Try.func51, Try.ntmps51
    go_wp2_with (at_builtin; refine wpList_append_own _ rfl _ _ 22 rfl w.heap.size 2 i0 (.int .i64 0) 1 8 Try.underlying22 hi hz0 hz1 hz2 rfl (by decide) _ _ _ rfl HO.out ⟨b, off, none⟩ xs.length cap (xs.map (Value.int .i64)) rfl ?c1 (HX.out.below (b0 _ _)).at oneCells ?c3 ?c4 ?c5 ?c6)
    case c1 => simp
    case c3 => unfold maxLen; omega
    case c4 => omega
    case c5 => simp
    intro v' w9 hown' hgrow hnil'
    have HS := Lib.hid (sl_of_own (n := 0 + xs.length) (xs := xs) (by simpa using hown') (by omega))
    have HB := Lib.hid (app_step0 (b0 w _) HO.out hgrow)
    obtain ⟨ao', c', rfl⟩ := own_shape hown'
    clear hown' hgrow hnil'
    go_wp2
    go_ret
    exact ⟨_, rfl, HS.out, HB.out⟩

theorem clone1_any (v : Value) (xs : List Int) (w : World) (h : Rd w v xs) (hn : xs.length ≤ 1000000) :
    Calls Try.prog 52 #[v] w (OwnEnd xs w) := by
  obtain ⟨i0, hi, hz0, hz1, hz2⟩ := info_parts info64
  rcases h with ⟨rfl, rfl⟩ | ⟨b, off, cap, rfl, hn', hl, hm, hb, hx⟩
  · refine (Try.slices_Clone_nil 0 0 w).mono ?_
    rintro e w' ⟨rfl, rfl⟩
    exact ⟨_, rfl, .inl ⟨rfl, rfl⟩, Below.refl _ _⟩
  · refine (Try.slices_Clone i0 (.int .i64 0) 1 8 hi hz0 hz1 hz2 rfl (by decide) Try.sizeOf2 b off xs.length cap (xs.map (Value.int .i64)) w (by simp) (by unfold maxLen; omega) (by omega) ?_ oneCells).mono ?_
    · intro j u hj
      have := (show Cells w b off xs from ⟨hb, hx⟩).at j u hj
      have e : (⟨b, off, none⟩ : Addr).add j = ⟨b, off + j, none⟩ := by cases j <;> simp [Addr.add]
      rw [e] at this
      exact this
    · rintro e w' ⟨v', rfl, ho, _, hb'⟩
      exact ⟨_, rfl, sl_of_own ho (by omega), hb'⟩

def Sep (u v : Value) : Prop := ∀ k, u.ownBlock = some k → v.ownBlock = some k → False
def ClsEnd (sh de : List Int) (ch : Int) (w : World) (e : Ending) (w' : World) : Prop := ∃ u1 u2, e = .returned (.agg #[u1, u2, .int .i64 ch]) ∧ Sl w' w.heap.size u1 sh ∧ Sl w' w.heap.size u2 de ∧ Sep u1 u2 ∧ Below w.heap.size w w'

set_option maxHeartbeats 1000000 in
set_option maxRecDepth 100000 in
theorem l13Own_any (ch : Int) (v1 v2 : Value) (sh de : List Int) (w : World) (h1 : Rd w v1 sh) (h2 : Rd w v2 de) (hn1 : sh.length ≤ 1000000) (hn2 : de.length ≤ 1000000) :
    Calls Try.prog 40 #[.agg #[v1, v2, .int .i64 ch]] w (ClsEnd sh de ch w) := by
  have R1 := Lib.hid h1
  have R2 := Lib.hid h2
  obtain ⟨a1, c1, rfl, _⟩ := rd_shape h1
  obtain ⟨a2, c2, rfl, _⟩ := rd_shape h2
  have HB := Lib.hid (fun o1 o2 => bl (b0 w o1) (b0 _ o2))
  have HX := Lib.hid (box3_new w (.slice a1 sh.length c1) (.slice a2 de.length c2) (.int .i64 ch))
  have C := Lib.hid (fun v xs w h hn => l01Own_any v xs w h hn)
  clear h1 h2
  have tok1 : True := trivial
  go_enter Try.func40, Try.ntmps40
  go_wp2_with fail
  go_region_held3 (fun w' => w'.cell? ⟨w.heap.size, 0, none⟩ = some (.slice a1 sh.length c1) ∧ w'.cell? ⟨w.heap.size, 1, none⟩ = some (.slice a2 de.length c2) ∧ w'.cell? ⟨w.heap.size, 2, none⟩ = some (.int .i64 ch)) (go_keep)
    (first
      | (go_at_call 51; have _t := tok1; clear tok1; refine (C.out _ sh _ (R1.out.below (HB.out _ _).drew) hn1).mono ?_; rintro e w1 ⟨u1, rfl, hs1, hb1⟩; obtain ⟨p1, q1, rfl⟩ := sl_shape hs1; have HB1 := Lib.hid (bl (HB.out _ _) (undrew hb1)); have HS1 := Lib.hid hs1; have HC1 := Lib.hid hb1; obtain ⟨x1, x2, x3, x4⟩ := ((HX.out _).below (b0 _ _)).below (undrew hb1); clear hs1 hb1)
      | (go_at_call 51; refine (C.out _ de _ (R2.out.below HB1.out) hn2).mono ?_; rintro e w2 ⟨u2, rfl, hs2, hb2⟩; obtain ⟨p2, q2, rfl⟩ := sl_shape hs2; have HB2 := Lib.hid (bl HB1.out hb2); have HS2 := Lib.hid hs2; have HC2 := Lib.hid hb2; obtain ⟨y1, y2, y3, y4⟩ := Box3.below ⟨x1, x2, x3, x4⟩ hb2; obtain ⟨hc, hf⟩ := bcell (bl (undrew HC1.out) hb2); have hz : w.heap.size + 1 < w2.heap.size := (by have := (bl (undrew HC1.out) hb2).size; simp at this; omega); clear hs2 hb2))
  go_wp2_with fail
  refine bodyPost_ret (v := .agg #[.slice p1 sh.length q1, .slice p2 de.length q2, .int .i64 ch]) (by simp [results, Try.results40, go_sem, hc]) rfl ⟨_, _, rfl, ?_, ?_, ?_, ?_⟩
  · refine sl_mono (B := w.heap.size + 1 + 1) (by omega) ?_
    repeat (refine sl_setCell ?_ (by simp <;> omega) _)
    exact (sl_mono (by simp) HS1.out).below HC2.out
  · have hz1 : w.heap.size + 1 < w1.heap.size := by have := HC1.out.size; simp at this; omega
    refine sl_mono (B := w.heap.size + 1 + 1) (by omega) ?_
    repeat (refine sl_setCell ?_ (by simp <;> omega) _)
    exact sl_mono (by omega) HS2.out
  · intro k e1 e2
    have h1 := (Marks.sl_own HS1.out k e1).2
    have h2 := (Marks.sl_own HS2.out k e2).1
    omega
  · repeat (refine Below.setCell ?_ (by simp <;> omega) _)
    exact HB2.out
set_option maxHeartbeats 1000000 in
set_option maxRecDepth 100000 in
theorem clone_any (ch : Int) (v1 v2 : Value) (sh de : List Int) (w : World) (h1 : Rd w v1 sh) (h2 : Rd w v2 de) (hn1 : sh.length ≤ 1000000) (hn2 : de.length ≤ 1000000) :
    Calls Try.prog 44 #[.agg #[v1, v2, .int .i64 ch]] w (ClsEnd sh de ch w) := by
  have R1 := Lib.hid h1
  have R2 := Lib.hid h2
  obtain ⟨a1, c1, rfl, _⟩ := rd_shape h1
  obtain ⟨a2, c2, rfl, _⟩ := rd_shape h2
  have HB := Lib.hid (fun o1 o2 => bl (b0 w o1) (b0 _ o2))
  have HX := Lib.hid (box3_new w (.slice a1 sh.length c1) (.slice a2 de.length c2) (.int .i64 ch))
  have C := Lib.hid (fun v xs w h hn => clone1_any v xs w h hn)
  clear h1 h2
  have tok1 : True := trivial
  go_enter Try.func44, Try.ntmps44
  go_wp2_with fail
  go_region_held3 (fun w' => w'.cell? ⟨w.heap.size, 0, none⟩ = some (.slice a1 sh.length c1) ∧ w'.cell? ⟨w.heap.size, 1, none⟩ = some (.slice a2 de.length c2) ∧ w'.cell? ⟨w.heap.size, 2, none⟩ = some (.int .i64 ch)) (go_keep)
    (first
      | (go_at_call 52; have _t := tok1; clear tok1; refine (C.out _ sh _ (R1.out.below (HB.out _ _).drew) hn1).mono ?_; rintro e w1 ⟨u1, rfl, hs1, hb1⟩; obtain ⟨p1, q1, rfl⟩ := sl_shape hs1; have HB1 := Lib.hid (bl (HB.out _ _) (undrew hb1)); have HS1 := Lib.hid hs1; have HC1 := Lib.hid hb1; obtain ⟨x1, x2, x3, x4⟩ := ((HX.out _).below (b0 _ _)).below (undrew hb1); clear hs1 hb1)
      | (go_at_call 52; refine (C.out _ de _ (R2.out.below HB1.out) hn2).mono ?_; rintro e w2 ⟨u2, rfl, hs2, hb2⟩; obtain ⟨p2, q2, rfl⟩ := sl_shape hs2; have HB2 := Lib.hid (bl HB1.out hb2); have HS2 := Lib.hid hs2; have HC2 := Lib.hid hb2; obtain ⟨y1, y2, y3, y4⟩ := Box3.below ⟨x1, x2, x3, x4⟩ hb2; obtain ⟨hc, hf⟩ := bcell (bl (undrew HC1.out) hb2); have hz : w.heap.size + 1 < w2.heap.size := (by have := (bl (undrew HC1.out) hb2).size; simp at this; omega); clear hs2 hb2))
  go_wp2_with fail
  refine bodyPost_ret (v := .agg #[.slice p1 sh.length q1, .slice p2 de.length q2, .int .i64 ch]) (by simp [results, Try.results44, go_sem, hc]) rfl ⟨_, _, rfl, ?_, ?_, ?_, ?_⟩
  · refine sl_mono (B := w.heap.size + 1 + 1) (by omega) ?_
    repeat (refine sl_setCell ?_ (by simp <;> omega) _)
    exact (sl_mono (by simp) HS1.out).below HC2.out
  · have hz1 : w.heap.size + 1 < w1.heap.size := by have := HC1.out.size; simp at this; omega
    refine sl_mono (B := w.heap.size + 1 + 1) (by omega) ?_
    repeat (refine sl_setCell ?_ (by simp <;> omega) _)
    exact sl_mono (by omega) HS2.out
  · intro k e1 e2
    have h1 := (Marks.sl_own HS1.out k e1).2
    have h2 := (Marks.sl_own HS2.out k e2).1
    omega
  · repeat (refine Below.setCell ?_ (by simp <;> omega) _)
    exact HB2.out
end Go.Proofs.Ytenaeehefamdmaa.Owns
