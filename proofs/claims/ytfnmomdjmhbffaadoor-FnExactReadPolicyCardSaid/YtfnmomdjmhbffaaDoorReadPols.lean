/-
  Contracts of ReadPolicy of both packages.
  Conditions: the library's table, its errors and MaxLen read (Tab, DoorE, DoorM).
-/
import Derived.Test.YtfnmomdjmhbffaaDoorNumbers
import Derived.Test.YtfnmomdjmhbffaaDoorPolicies
import Derived.Test.YtfnmomdjmhbffaaDoorConcats
import Derived.Lib.SlicesS
import Derived.RegionTactic
import Derived.Deep.DeepCutAuto
import Derived.Handy
namespace Go.Proofs.YtfnmomdjmhbffaaDoor.ReadPols
open Go.RowKit Mem Texts TextPlain ReadPlain Reads Doors Words Numbers Policies Concats
set_option linter.unusedVariables false

/-- The text l is the text of the policy whose numbers are xs. -/
def PolIs (l : List UInt8) (xs : List Int) : Prop := xs.length = 5 ∧ within (-1000000000000) 1000000000000 xs = true ∧ l = joinP xs
/-- What a reader of policies returns. -/
def PolEnd (l : List UInt8) (w : World) (e : Ending) (w' : World) : Prop := ∃ (a b c d f : Int) (ok : Bool), e = .returned (.tuple #[.agg #[.int .i64 a, .int .i64 b, .int .i64 c, .int .i64 d, .int .i64 f], .bool ok]) ∧ Below w.heap.size w w' ∧
  ((ok = true ∧ PolIs l [a, b, c, d, f]) ∨ (ok = false ∧ a = 0 ∧ b = 0 ∧ c = 0 ∧ d = 0 ∧ f = 0 ∧ ∀ xs, ¬ PolIs l xs))
theorem pol_yes {l : List UInt8} {w w' : World} {a b c d f : Int} (h : PolIs l [a, b, c, d, f]) (hb : Below w.heap.size w w') : PolEnd l w (.returned (.tuple #[.agg #[.int .i64 a, .int .i64 b, .int .i64 c, .int .i64 d, .int .i64 f], .bool true])) w' :=
  ⟨a, b, c, d, f, true, rfl, hb, .inl ⟨rfl, h⟩⟩
theorem pol_no {l : List UInt8} {w w' : World} (h : ∀ xs, ¬ PolIs l xs) (hb : Below w.heap.size w w') : PolEnd l w (.returned (.tuple #[.agg #[.int .i64 0, .int .i64 0, .int .i64 0, .int .i64 0, .int .i64 0], .bool false])) w' :=
  ⟨0, 0, 0, 0, 0, false, rfl, hb, .inr ⟨rfl, rfl, rfl, rfl, rfl, rfl, h⟩⟩
theorem split_joinP (xs : List Int) (h : xs ≠ []) : splitC 44 (joinP xs) = xs.map Lib.itoa := by
  unfold joinP
  refine split_join 44 _ (by simpa using h) (fun x hx => ?_)
  obtain ⟨n, _, rfl⟩ := List.mem_map.1 hx
  exact itoa_no 44 (.inr rfl) n
theorem joinP_split {l : List UInt8} {xs : List Int} (h : splitC 44 l = xs.map Lib.itoa) : l = joinP xs := by
  unfold joinP; rw [← h, join_split]
theorem len5 {xs : List Int} (h : xs.length = 5) : ∃ a b c d f, xs = [a, b, c, d, f] := by
  match xs, h with
  | [a, b, c, d, f], _ => exact ⟨a, b, c, d, f, rfl⟩
theorem ne5 {xs : List Int} (h : xs.length = 5) : xs ≠ [] := by intro e; rw [e] at h; cases h
theorem within_mem {lo hi : Int} {xs : List Int} (h : within lo hi xs = true) : ∀ x ∈ xs, lo ≤ x ∧ x ≤ hi := fun x hx => by
  obtain ⟨i, hi, rfl⟩ := List.getElem_of_mem hx
  have := within_get h i hi
  simpa [List.getD, hi] using this
theorem map_inj {xs ys : List Int} (hx : ∀ x ∈ xs, -9223372036854775807 ≤ x ∧ x ≤ 9223372036854775807) (hy : ∀ x ∈ ys, -9223372036854775807 ≤ x ∧ x ≤ 9223372036854775807) (h : xs.map Lib.itoa = ys.map Lib.itoa) : xs = ys := by
  induction xs generalizing ys with
  | nil => cases ys with
    | nil => rfl
    | cons y ys => cases h
  | cons x xs ih => cases ys with
    | nil => cases h
    | cons y ys =>
      simp only [List.map_cons, List.cons.injEq] at h
      rw [itoa_inj (hx x (by simp)) (hy y (by simp)) h.1, ih (fun z hz => hx z (by simp [hz])) (fun z hz => hy z (by simp [hz])) h.2]
theorem pol_words {l : List UInt8} {xs : List Int} (h : PolIs l xs) : splitC 44 l = xs.map Lib.itoa := by rw [h.2.2, split_joinP xs (ne5 h.1)]
theorem pol_uniq {l : List UInt8} {xs ys : List Int} (h : PolIs l xs) (g : PolIs l ys) : xs = ys :=
  map_inj (fun x hx => by have := within_mem h.2.1 x hx; omega) (fun x hx => by have := within_mem g.2.1 x hx; omega) (by rw [← pol_words h, ← pol_words g])
theorem polT_yes {xs : List Int} (h : within (-1000000000000) 1000000000000 xs = true) : polT xs = joinP xs := by unfold polT; rw [h]; rfl
theorem polT_no {xs : List Int} (h : within (-1000000000000) 1000000000000 xs = false) : polT xs = [] := by unfold polT; rw [h]; rfl
theorem joinP_ne {a : Int} {xs : List Int} : joinP (a :: xs) ≠ [] := by
  unfold joinP
  rw [List.map_cons, Lib.join_cons]
  have := itoa_ne a
  intro h
  simp at h
  exact this h.1

theorem s_full {t : List UInt8} (h : t ≠ []) : (S t).toList.isEmpty = false := by
  cases e : (S t).toList with
  | nil =>
    have : ((S t).toList == (⟨#[]⟩ : ByteArray).toList) = true := by rw [e]; kernel_rfl
    have := (Lib.bytes_beq_iff _ _).1 this
    refine absurd ?_ h
    have := congrArg (fun b => b.data.toList) this
    rw [S_list] at this
    exact this
  | cons a l => rfl
/-- A block of five numbers, free to be written. -/
def Box5 (w : World) (q : Nat) (a b c d f : Int) : Prop := w.cell? ⟨q, 0, none⟩ = some (.int .i64 a) ∧ w.cell? ⟨q, 1, none⟩ = some (.int .i64 b) ∧ w.cell? ⟨q, 2, none⟩ = some (.int .i64 c) ∧ w.cell? ⟨q, 3, none⟩ = some (.int .i64 d) ∧ w.cell? ⟨q, 4, none⟩ = some (.int .i64 f) ∧ q < w.heap.size ∧ ∀ o, w.frozen? ⟨q, o, none⟩ = false
theorem Box5.below {w w1 : World} {q : Nat} {a b c d f : Int} (h : Box5 w q a b c d f) (hb : Below w.heap.size w w1) : Box5 w1 q a b c d f := by
  obtain ⟨h1, h2, h3, h4, h5, h6, h7⟩ := h
  exact ⟨(hb.cell (p := ⟨q, 0, none⟩) h6).trans h1, (hb.cell (p := ⟨q, 1, none⟩) h6).trans h2, (hb.cell (p := ⟨q, 2, none⟩) h6).trans h3, (hb.cell (p := ⟨q, 3, none⟩) h6).trans h4, (hb.cell (p := ⟨q, 4, none⟩) h6).trans h5, Nat.lt_of_lt_of_le h6 hb.size, fun o => (hb.frozen (p := ⟨q, o, none⟩) h6).trans (h7 o)⟩
theorem box5_new (w : World) (a b c d f : Int) (e : TypeId) : Box5 (w.alloc (.cells #[.int .i64 a, .int .i64 b, .int .i64 c, .int .i64 d, .int .i64 f] e)) w.heap.size a b c d f := ⟨by simp [go_sem], by simp [go_sem], by simp [go_sem], by simp [go_sem], by simp [go_sem], by simp, fun o => by simp [go_sem]⟩
theorem Box5.drew {w : World} {q : Nat} {a b c d f : Int} (h : Box5 w q a b c d f) : Box5 w.drew q a b c d f := h
theorem cells5 {w : World} {b off : Nat} {a c d e f : Int} (h : ∀ i, i < [a, c, d, e, f].length → w.cell? ⟨b, off + i, none⟩ = some (.int .i64 ([a, c, d, e, f].getD i 0))) :
    w.cell? ⟨b, off, none⟩ = some (.int .i64 a) ∧ w.cell? ⟨b, off + 1, none⟩ = some (.int .i64 c) ∧ w.cell? ⟨b, off + 2, none⟩ = some (.int .i64 d) ∧ w.cell? ⟨b, off + 3, none⟩ = some (.int .i64 e) ∧ w.cell? ⟨b, off + 4, none⟩ = some (.int .i64 f) :=
  ⟨h 0 (by simp), h 1 (by simp), h 2 (by simp), h 3 (by simp), h 4 (by simp)⟩

def Five (w2 : World) (a b c d f : Int) (p : Value) (wx : World) : Prop := p = .pointer (some ⟨w2.heap.size, 0, none⟩) ∧ Below w2.heap.size w2 wx ∧ Box5 wx w2.heap.size a b c d f
set_option maxHeartbeats 1000000 in
set_option maxRecDepth 100000 in
theorem specReadPolicy_any (s : ByteArray) (w : World) (hs : s.size ≤ 1048576) :
    Calls Tryd.prog 4 #[.string s] w (PolEnd s.data.toList w) := by
  have HW : Hid (∀ x ∈ splitC 44 s.data.toList, x.length ≤ 1048576) := fun x hx => by
    have := splitC_word 44 _ x hx
    rw [show s.data.toList.length = s.size by simp] at this; omega
  have SP := Lib.hid (fun w => l01Split_any s 44 44 w hs rfl)
  go_enter Tryd.func4, Tryd.ntmps4
  go_wp2_with fail
  refine (SP.out _).mono ?_; rintro e w1 ⟨v, rfl, hr, hb1⟩
  have HB1 := Lib.hid (bl (b0 w _) hb1)
  have BX1 := Lib.hid ((box5_new w 0 0 0 0 0 23).below hb1)
  have HR := Lib.hid hr
  clear hr hb1
  go_wp2_with fail
  refine (l01Numbers_any v _ w1 HR.out HW.out).mono ?_; rintro e w2 ⟨u, ok, rfl, hb2, hn⟩
  have HB2 := Lib.hid (bl HB1.out hb2)
  have BX2 := Lib.hid (BX1.out.below hb2)
  clear hb2
  rcases hn with ⟨rfl, xs, hsl, hI⟩ | ⟨rfl, rfl, hbad⟩
  · by_cases h5 : xs.length = 5
    · obtain ⟨a, b, c, d, f, rfl⟩ := len5 h5
      rcases hsl.rd with ⟨_, h⟩ | ⟨bk, off, cap, rfl, _, hcap, hcap2, hbk, hx⟩
      · cases h
      obtain ⟨x0, x1, x2, x3, x4⟩ := cells5 hx
      have HJ := Lib.hid (joinP_split hI.1)
      have UN : Hid (∀ xs, PolIs s.data.toList xs → xs = [a, b, c, d, f]) := fun xs h => map_inj (fun x hx => by have := within_mem h.2.1 x hx; omega) (fun x hx => by have := hI.2 x hx; omega) (by rw [← pol_words h, hI.1])
      have HP := Lib.hid (fun w => specPolicyText_any a b c d f w)
      clear hx hsl hI h5 BX1 HB1 HR HW SP
      simp only [List.length_cons, List.length_nil] at hcap ⊢
      go_upto_region 4 with fail
      go_cut [6] (Five w2 a b c d f)
      case first =>
        go_region
        all_goals (go_wp2_with fail; go_meet; exact ⟨rfl, by go_grown, (box5_new w2 a b c d f _).drew⟩)
      case rest =>
        obtain ⟨rfl, hbx, hbox⟩ := hcut
        have HBX := Lib.hid hbx
        have HX := Lib.hid hbox
        obtain ⟨p0, p1, p2, p3, p4, p5, p6⟩ := hbox
        clear hbx x0 x1 x2 x3 x4
        go_wp2_with fail
        refine (HP.out _).mono ?_
        rintro e w3 ⟨rfl, hb3⟩
        have HBB := Lib.hid (bl HB2.out (bl HBX.out hb3))
        obtain ⟨m0, m1, m2, m3, m4, m5, m6⟩ := BX2.out.below (bl HBX.out hb3)
        have HX3 := HX.out.below hb3
        clear p0 p1 p2 p3 p4 p5 p6 hb3
        obtain ⟨p0, p1, p2, p3, p4, p5, p6⟩ := HX3
        clear HX HBX BX2 HP
        cases hw : within (-1000000000000) 1000000000000 [a, b, c, d, f] with
        | true =>
          rw [polT_yes hw]
          have R : Hid (PolIs s.data.toList [a, b, c, d, f]) := ⟨rfl, hw, HJ.out⟩
          have ne := s_full (joinP_ne (a := a) (xs := [b, c, d, f]))
          clear HJ UN
          generalize joinP [a, b, c, d, f] = t at *
          clear hw
          go_wp2_with fail
          refine bodyPost_ret (v := .tuple #[.agg #[.int .i64 a, .int .i64 b, .int .i64 c, .int .i64 d, .int .i64 f], .bool true]) (by simp [results, Tryd.results4, go_sem, m0, m1, m2, m3, m4]) rfl ?_
          exact pol_yes R.out (HBB.out.setCell (by simp) _ |>.setCell (by simp) _ |>.setCell (by simp) _ |>.setCell (by simp) _ |>.setCell (by simp) _)
        | false =>
          rw [polT_no hw]
          have R : Hid (∀ xs, ¬ PolIs s.data.toList xs) := fun xs h => by
            have e := UN.out xs h
            subst e
            have := h.2.1
            rw [hw] at this; cases this
          clear hw HJ UN
          have em : (S []).toList.isEmpty = true := by kernel_rfl
          go_wp2_with fail
          refine bodyPost_ret (v := .tuple #[.agg #[.int .i64 0, .int .i64 0, .int .i64 0, .int .i64 0, .int .i64 0], .bool false]) (by simp [results, Tryd.results4, go_sem, m0, m1, m2, m3, m4]) rfl ?_
          exact pol_no R.out (HBB.out.setCell (by simp) _ |>.setCell (by simp) _ |>.setCell (by simp) _ |>.setCell (by simp) _ |>.setCell (by simp) _)
    · have R : Hid (∀ xs, ¬ PolIs s.data.toList xs) := fun xs h => h5 (by have e := hI.1; rw [pol_words h] at e; have := congrArg List.length e; rw [List.length_map, List.length_map] at this; rw [← this]; exact h.1)
      obtain ⟨ao, co, rfl⟩ := sl_shape hsl
      clear hsl hI
      generalize xs.length = n at *
      have hn5 : ((n : Int) == 5) = false := beq_eq_false_iff_ne.2 (by omega)
      have hn6 : ((n : Int) != 5) = true := bne_iff_ne.2 (by omega)
      clear h5
      obtain ⟨m0, m1, m2, m3, m4, m5, m6⟩ := BX2.out
      clear BX1 BX2 HB1 HR HW SP
      go_wp2_with fail
      refine bodyPost_ret (v := .tuple #[.agg #[.int .i64 0, .int .i64 0, .int .i64 0, .int .i64 0, .int .i64 0], .bool false]) (by simp [results, Tryd.results4, go_sem, m0, m1, m2, m3, m4]) rfl ?_
      exact pol_no R.out (HB2.out.setCell (by simp) _ |>.setCell (by simp) _ |>.setCell (by simp) _ |>.setCell (by simp) _ |>.setCell (by simp) _)
  · have R : Hid (∀ xs, ¬ PolIs s.data.toList xs) := fun xs h => hbad xs ⟨pol_words h, fun x hx => by have := within_mem h.2.1 x hx; omega⟩
    clear hbad
    obtain ⟨m0, m1, m2, m3, m4, m5, m6⟩ := BX2.out
    clear BX1 BX2 HB1 HR HW SP
    go_wp2_with fail
    refine bodyPost_ret (v := .tuple #[.agg #[.int .i64 0, .int .i64 0, .int .i64 0, .int .i64 0, .int .i64 0], .bool false]) (by simp [results, Tryd.results4, go_sem, m0, m1, m2, m3, m4]) rfl ?_
    exact pol_no R.out (HB2.out.setCell (by simp) _ |>.setCell (by simp) _ |>.setCell (by simp) _ |>.setCell (by simp) _ |>.setCell (by simp) _)
end Go.Proofs.YtfnmomdjmhbffaaDoor.ReadPols
