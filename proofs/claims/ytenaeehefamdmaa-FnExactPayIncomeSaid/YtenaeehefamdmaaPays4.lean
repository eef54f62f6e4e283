/-
  Contracts of the laws' copies and marks of classes.
  Conditions: as each contract says.
-/
import Derived.Test.YtenaeehefamdmaaPays3
import Derived.Test.YtenaeehefamdmaaClasses
namespace Go.Proofs.Ytenaeehefamdmaa.Pays
open Go.RowKit Mem IsClasses Living Owns Concats Helpers Classes Marks
set_option linter.unusedVariables false

set_option maxHeartbeats 400000 in
theorem toClass_sep (ch : Int) (v1 v2 : Value) (xs ys : List Int) (w : World) (h1 : Arg w v1 xs) (h2 : Arg w v2 ys) (hn1 : xs.length ≤ 1048576) (hn2 : ys.length ≤ 1048576) :
    Calls Try.prog 8 #[.agg #[v1, v2, .int .i64 ch]] w fun e w' => ∃ u1 u2, e = .returned (.agg #[u1, u2, .int .i64 ch]) ∧ Sl w' w.heap.size u1 xs ∧ Sl w' w.heap.size u2 ys ∧ Sep u1 u2 ∧ Below w.heap.size w w' := by
  have HA := Lib.hid h1
  have HB2 := Lib.hid h2
  clear h1 h2
  go_enter Try.func8, Try.ntmps8
  go_wp2_with fail
  refine (Helpers.toInt64S_any _ xs _ (HA.out.below (b3 _ _ _ _)) hn1).mono ?_
  rintro e w1 ⟨u, rfl, hs, hb⟩
  obtain ⟨ua, uc, rfl⟩ := sl_shape hs
  obtain ⟨hc, hf⟩ := bcell hb
  have hz : w.heap.size + 1 + 1 < w1.heap.size := by have := hb.size; simp at this; omega
  have HS := Lib.hid (sl_mono (B' := w.heap.size + 1 + 1 + 1) (by simp) hs)
  have HB := Lib.hid ((b3 _ _ _ _).trans (hb.mono (by simp <;> omega)) : Below w.heap.size w w1)
  clear hs hb
  go_wp2_with fail
  refine (Helpers.toInt64S_any _ ys _ (HB2.out.below (HB.out.setCell (by simp <;> omega) _)) hn2).mono ?_
  rintro e w2 ⟨u2, rfl, hs2, hb2⟩
  obtain ⟨ua2, uc2, rfl⟩ := sl_shape hs2
  have hc2 : ∀ b o, b < w.heap.size + 1 + 1 + 1 → w2.cell? ⟨b, o, none⟩ = (w1.setCell ⟨w.heap.size + 1 + 1, 0, none⟩ (.slice ua xs.length uc)).cell? ⟨b, o, none⟩ := fun b o h => (bcell hb2).1 b o (by simp; omega)
  have hf2 : ∀ b o, b < w.heap.size + 1 + 1 + 1 → w2.frozen? ⟨b, o, none⟩ = (w1.setCell ⟨w.heap.size + 1 + 1, 0, none⟩ (.slice ua xs.length uc)).frozen? ⟨b, o, none⟩ := fun b o h => (bcell hb2).2 b o (by simp; omega)
  have hz2 : w.heap.size + 1 + 1 < w2.heap.size := by have := hb2.size; simp at this; omega
  have HS1 := Lib.hid ((sl_setCell HS.out (p := ⟨w.heap.size + 1 + 1, 0, none⟩) (by simp) (.slice ua xs.length uc)).below hb2)
  have HS2 := Lib.hid (sl_mono (B' := w.heap.size + 1 + 1 + 1) (by simp; omega) hs2)
  have SP : Hid (Sep (.slice ua xs.length uc) (.slice ua2 ys.length uc2)) := fun k e1 e2 => by
    have h1 := (Marks.sl_own HS.out k e1).2
    have h2 := (Marks.sl_own hs2 k e2).1
    simp at h2; omega
  have HBB := Lib.hid ((HB.out.setCell (p := ⟨w.heap.size + 1 + 1, 0, none⟩) (by simp <;> omega) (.slice ua xs.length uc)).trans (hb2.mono (by simp; omega)))
  clear hs2 hb2
  go_wp2
  refine bodyPost_ret (v := .agg #[.slice ua xs.length uc, .slice ua2 ys.length uc2, .int .i64 ch]) (by simp [results, Try.results8, go_sem, hc, hc2]) rfl ⟨_, _, rfl, ?_, ?_, SP.out, ?_⟩
  · refine sl_mono (B := w.heap.size + 1 + 1 + 1) (by omega) ?_
    repeat (refine sl_setCell ?_ (by simp <;> omega) _)
    exact HS1.out
  · refine sl_mono (B := w.heap.size + 1 + 1 + 1) (by omega) ?_
    repeat (refine sl_setCell ?_ (by simp <;> omega) _)
    exact HS2.out
  · repeat (refine Below.setCell ?_ (by simp <;> omega) _)
    exact HBB.out


/-- Only the blocks of two slices have been written. -/
def Two (w w' : World) (u1 u2 : Value) : Prop := w.heap.size ≤ w'.heap.size ∧ ∀ q, q < w.heap.size → u1.ownBlock ≠ some q → u2.ownBlock ≠ some q → w'.heap[q]? = w.heap[q]?
theorem Two.box {w w' : World} {u1 u2 : Value} (h : Two w w' u1 u2) {q : Nat} {x y z : Value} (b : FBox w q x y z) (n1 : u1.ownBlock ≠ some q) (n2 : u2.ownBlock ≠ some q) : FBox w' q x y z := (h.2 q b.lt n1 n2).trans b
theorem Two.sl {w w' : World} {u1 u2 : Value} (h : Two w w' u1 u2) {B : Nat} {v : Value} {xs : List Int} (s : Sl w B v xs) (n1 : Sep u1 v) (n2 : Sep u2 v) : Sl w' B v xs := by
  rcases s with s | ⟨b, off, cap, cur, rfl, hn, hl, hm, hB, hb, hx⟩
  · exact .inl s
  · exact .inr ⟨b, off, cap, cur, rfl, hn, hl, hm, hB, (h.2 b (lt_of_get hb) (fun e => n1 b e rfl) (fun e => n2 b e rfl)).trans hb, hx⟩

set_option maxHeartbeats 1000000 in
theorem markClass_any (ch : Int) (u1 u2 : Value) (S D : List Int) (B : Nat) (k : Int) (w : World) (h1 : Sl w B u1 S) (h2 : Sl w B u2 D) (hB : B ≤ w.heap.size) (hs : Sep u1 u2) (k1 : 0 ≤ k) (k2 : k ≤ 100000000) (n1 : S.length ≤ 10000000) (n2 : D.length ≤ 10000000) :
    Calls Try.prog 12 #[.agg #[u1, u2, .int .i64 ch], .int .i64 k] w fun e w' => e = .returned (.int .i64 (k + S.length + D.length)) ∧ Sl w' B u1 (marks k S.length) ∧ Sl w' B u2 (marks (k + S.length) D.length) ∧ Two w w' u1 u2 ∧ Below B w w' := by
  have O1 := Lib.hid (sl_own h1)
  have O2 := Lib.hid (sl_own h2)
  have H2 := Lib.hid h2
  have SP := Lib.hid hs
  have MK := Lib.hid (fun o => markInt64S_g u1 S B k (w.alloc o) (h1.below (b0 w o)) k1 (by omega) n1)
  have X := Lib.hid (fbox_new w u1 u2 (.int .i64 ch))
  obtain ⟨a1, c1, rfl⟩ := sl_shape h1
  obtain ⟨a2, c2, rfl⟩ := sl_shape h2
  clear h1 h2 hs
  go_enter Try.func12, Try.ntmps12
  go_wp2_with fail
  refine (MK.out _).mono ?_; rintro e w1 ⟨rfl, hs1, hg1⟩
  have HS1 := Lib.hid hs1
  have HG1 := Lib.hid hg1
  have H21 := Lib.hid (sl_grown (H2.out.below (b0 w _)) hg1 (fun k e1 e2 => SP.out k e1 e2))
  obtain ⟨x0, x1, x2, x3, x4⟩ := FBox.parts (show FBox w1 w.heap.size _ _ _ from (hg1.block _ X.out.lt (fun e => by have := (O1.out _ e.symm).2; omega)).trans X.out)
  have HB1 := Lib.hid ((Below.refl B w).alloc hB _ |>.grown hg1 (by simp; omega) (fun k e => (O1.out k e).1))
  have hz1 := hg1.size
  clear hs1 hg1 MK X
  go_wp2_with fail
  refine (markInt64S_g _ D B _ w1 H21.out (by omega) (by omega) n2).mono ?_; rintro e w2 ⟨rfl, hs2, hg2⟩
  have HS12 := Lib.hid (sl_grown HS1.out hg2 (fun k e1 e2 => SP.out k e2 e1))
  have HS2 := Lib.hid hs2
  have HT : Hid (Two w w2 (.slice a1 S.length c1) (.slice a2 D.length c2)) := ⟨by have := hg2.size; simp at hz1; omega, fun q hq e1 e2 => (hg2.block q (by simp at hz1; omega) (fun e => e2 e.symm)).trans ((HG1.out.block q (by simp; omega) (fun e => e1 e.symm)).trans ((b0 w _).block q hq))⟩
  have HB2 := Lib.hid (HB1.out.grown hg2 (by simp at hz1; omega) (fun k e => (O2.out k e).1))
  clear hs2 hg2
  go_wp2
  go_ret
  exact ⟨rfl, HS12.out, HS2.out, HT.out, HB2.out⟩

set_option maxHeartbeats 1000000 in
theorem heldClass_any (ch : Int) (u1 u2 : Value) (n m : Nat) (k : Int) (w : World) (h1 : Rd w u1 (marks k n)) (h2 : Rd w u2 (marks (k + n) m)) (k1 : 0 ≤ k) (k2 : k ≤ 100000000) (n1 : n ≤ 10000000) (n2 : m ≤ 10000000) :
    Calls Try.prog 14 #[.agg #[u1, u2, .int .i64 ch], .int .i64 k] w fun e w' => e = .returned (.int .i64 (k + n + m)) ∧ Below w.heap.size w w' := by
  have HD := Lib.hid (fun o => heldInt64S_any u1 n k (w.alloc o) (h1.below (b0 w o)) k1 (by omega) n1)
  have H2 := Lib.hid h2
  have X := Lib.hid (fbox_new w u1 u2 (.int .i64 ch))
  obtain ⟨a1, c1, rfl, _⟩ := rd_shape h1
  obtain ⟨a2, c2, rfl, _⟩ := rd_shape h2
  clear h1 h2
  go_enter Try.func14, Try.ntmps14
  go_wp2_with fail
  refine (HD.out _).mono ?_; rintro e w1 ⟨rfl, hb1⟩
  have HB1 := Lib.hid (bl (b0 w _) hb1)
  obtain ⟨x0, x1, x2, x3, x4⟩ := (X.out.below hb1).parts
  clear hb1
  go_wp2_with fail
  refine (heldInt64S_any _ m _ w1 (H2.out.below HB1.out) (by omega) (by omega) n2).mono ?_; rintro e w2 ⟨rfl, hb2⟩
  have HB2 := Lib.hid (bl HB1.out hb2)
  clear hb2
  go_wp2
  go_ret
  exact ⟨rfl, HB2.out⟩
end Go.Proofs.Ytenaeehefamdmaa.Pays
