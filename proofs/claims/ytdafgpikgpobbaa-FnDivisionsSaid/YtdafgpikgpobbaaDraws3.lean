/-
  Contracts of the reference's draws of plain numbers.
  Conditions: the code has at most 4096 bytes. What is drawn is some int64: no more is said.
-/
import Derived.Test.YtdafgpikgpobbaaDraws2
namespace Go.Proofs.Ytdafgpikgpobbaa.Draws
open Go.RowKit Mem
set_option linter.unusedVariables false

/-- A number below a number of at least 1 was drawn. -/
def DrawnL (p : Nat) (n : Int) (w : World) (e : Ending) (w' : World) : Prop := ∃ x : Int, e = .returned (.int .i64 x) ∧ 0 ≤ x ∧ x < n ∧ Src w' p ∧ w.grownBy w' (some p)
theorem next_lit (p : Nat) (n : Int) (w : World) (h : Src w p) (h1 : 1 ≤ n) (hn : n ≤ 9223372036854775807) :
    Calls Try.prog 61 #[.pointer (some ⟨p, 0, none⟩), .int .i64 n] w (DrawnL p n w) :=
  (next_any p n w h hn).mono fun e w' ⟨x, he, h0, h2, hs, hg⟩ => ⟨x, he, h0, by omega, hs, hg⟩

theorem wrap_I64 (n : Int) : I64 (wrap64 n) := by unfold I64 wrap64; omega

def IntIn (P : Int → Prop) (v : Value) : Prop := ∃ x : Int, v = .int .i64 x ∧ P x
theorem all_nil (Q : Value → Prop) : ∀ v ∈ ([] : List Value), Q v := fun v h => by cases h
theorem all_cons {Q : Value → Prop} {a : Value} {l : List Value} (h : Q a) (k : ∀ v ∈ l, Q v) : ∀ v ∈ a :: l, Q v := fun v hv => by
  rcases List.mem_cons.1 hv with rfl | hv
  · exact h
  · exact k v hv

theorem pick_lit (p n b : Nat) (vs : List Value) (P : Int → Prop) (w : World) (e : TypeId) (h : Src w p) (hb : b = w.heap.size) (hl : n = vs.length) (hn : 1 ≤ n) (hn2 : n ≤ 1000) (hv : ∀ v ∈ vs, IntIn P v) :
    Calls Try.prog 62 #[.pointer (some ⟨p, 0, none⟩), .slice (some ⟨b, 0, none⟩) n n] (w.alloc (.cells vs.toArray e)) (Picked p P w) := by
  subst hb
  have hp := h.lt
  refine (pick_any p w.heap.size 0 n n P _ (h.below (b0 _ _)) (by omega) hn hn2 (fun i hi => ?_)).mono ?_
  · obtain ⟨x, hx, px⟩ := hv vs[i] (List.getElem_mem (by omega))
    refine ⟨x, ?_, px⟩
    rw [Nat.zero_add, cell_of_block (heap_alloc_new w _) (by rw [List.getElem?_toArray, List.getElem?_eq_getElem (by omega)]), hx]
  · rintro e w' ⟨x, rfl, px, hs, hg⟩
    exact ⟨x, rfl, px, hs, grown_trans (grown_of_below (b0 _ _) _) hg⟩

theorem pick_lit_d (p n b : Nat) (vs : List Value) (P : Int → Prop) (w : World) (e : TypeId) (h : Src w p) (hb : b = w.heap.size) (hl : n = vs.length) (hn : 1 ≤ n) (hn2 : n ≤ 1000) (hv : ∀ v ∈ vs, IntIn P v) :
    Calls Try.prog 62 #[.pointer (some ⟨p, 0, none⟩), .slice (some ⟨b, 0, none⟩) n n] (w.alloc (.cells vs.toArray e)).drew (Picked p P w) := by
  subst hb
  have hp := h.lt
  refine (pick_any p w.heap.size 0 n n P (w.alloc (.cells vs.toArray e)).drew ((h.below (b0 _ _)).drewN 1) (by omega) hn hn2 (fun i hi => ?_)).mono ?_
  · obtain ⟨x, hx, px⟩ := hv vs[i] (List.getElem_mem (by omega))
    refine ⟨x, ?_, px⟩
    show (w.alloc (.cells vs.toArray e)).cell? _ = _
    rw [Nat.zero_add, cell_of_block (heap_alloc_new w _) (by rw [List.getElem?_toArray, List.getElem?_eq_getElem (by omega)]), hx]
  · rintro e w' ⟨x, rfl, px, hs, hg⟩
    exact ⟨x, rfl, px, hs, grown_trans (grown_trans (grown_of_below (b0 _ _) _) (grown_drewN _ 1 _)) hg⟩

def One (w : World) (e : Ending) (w' : World) : Prop := ∃ a : Int, e = .returned (.int .i64 a) ∧ I64 a ∧ Below w.heap.size w w'
def Two (w : World) (e : Ending) (w' : World) : Prop := ∃ a b : Int, e = .returned (.tuple #[.int .i64 a, .int .i64 b]) ∧ I64 a ∧ I64 b ∧ Below w.heap.size w w'
def Three (w : World) (e : Ending) (w' : World) : Prop := ∃ a b c : Int, e = .returned (.tuple #[.int .i64 a, .int .i64 b, .int .i64 c]) ∧ I64 a ∧ I64 b ∧ I64 c ∧ Below w.heap.size w w'
def Picked2 (p : Nat) (w : World) (e : Ending) (w' : World) : Prop := ∃ a b : Int, e = .returned (.tuple #[.int .i64 a, .int .i64 b]) ∧ I64 a ∧ I64 b ∧ Src w' p ∧ w.grownBy w' (some p)

set_option maxRecDepth 100000 in
theorem money_any (p : Nat) (w : World) (h : Src w p) : Calls Try.prog 67 #[.pointer (some ⟨p, 0, none⟩)] w (Picked p I64 w) := by
  have HS := Lib.hid h
  have HG := Lib.hid (grown_refl w (some p))
  clear h
  go_enter Try.func67, Try.ntmps67
  go_wp2_with (first
      | (go_at_call 61; (first | refine (Draws.next_lit _ _ _ HS.out (by omega) (by omega)).mono ?_ | refine (Draws.next_any _ _ _ HS.out (by omega)).mono ?_); rintro e w' ⟨x, rfl, x0, x1, hs, hg⟩; have HS := Lib.hid hs; have HG := Lib.hid (Draws.grown_trans HG.out hg); clear hs hg)
      | (go_at_call 62; refine (Draws.pick_lit _ _ _ _ Draws.I64 _ _ HS.out (by first | rfl | simp) (by rfl) (by decide) (by decide) (by repeat (first | exact Draws.all_nil _ | refine Draws.all_cons ⟨_, rfl, by first | exact Draws.wrap_I64 _ | (unfold Draws.I64; omega)⟩ ?_))).mono ?_; rintro e w' ⟨x, rfl, x0, hs, hg⟩; have HS := Lib.hid hs; have HG := Lib.hid (Draws.grown_trans HG.out hg); clear hs hg; unfold Draws.I64 at x0)
      | (go_at_call 67; refine (Draws.money_any _ _ HS.out).mono ?_; rintro e w' ⟨x, rfl, x0, hs, hg⟩; have HS := Lib.hid hs; have HG := Lib.hid (Draws.grown_trans HG.out hg); clear hs hg; unfold Draws.I64 at x0)
      | (go_at_call 80; refine (Draws.month_any _ _ HS.out).mono ?_; rintro e w' ⟨x, rfl, x0, hs, hg⟩; have HS := Lib.hid hs; have HG := Lib.hid (Draws.grown_trans HG.out hg); clear hs hg; unfold Draws.I64 at x0)
      | (go_at_call 88; refine (Draws.rate_any _ _ HS.out).mono ?_; rintro e w' ⟨x, rfl, x0, hs, hg⟩; have HS := Lib.hid hs; have HG := Lib.hid (Draws.grown_trans HG.out hg); clear hs hg; unfold Draws.I64 at x0)
      | (go_at_call 75; refine (Draws.pair_any _ _ HS.out).mono ?_; rintro e w' ⟨x, y, rfl, x0, y0, hs, hg⟩; have HS := Lib.hid hs; have HG := Lib.hid (Draws.grown_trans HG.out hg); clear hs hg; unfold Draws.I64 at x0 y0)
     )
  all_goals
    go_ret
    exact ⟨_, rfl, (by first | exact wrap_I64 _ | (unfold I64; omega)), HS.out, HG.out⟩

set_option maxRecDepth 100000 in
theorem month_any (p : Nat) (w : World) (h : Src w p) : Calls Try.prog 80 #[.pointer (some ⟨p, 0, none⟩)] w (Picked p I64 w) := by
  have HS := Lib.hid h
  have HG := Lib.hid (grown_refl w (some p))
  clear h
  go_enter Try.func80, Try.ntmps80
  go_wp2_with (first
      | (go_at_call 61; (first | refine (Draws.next_lit _ _ _ HS.out (by omega) (by omega)).mono ?_ | refine (Draws.next_any _ _ _ HS.out (by omega)).mono ?_); rintro e w' ⟨x, rfl, x0, x1, hs, hg⟩; have HS := Lib.hid hs; have HG := Lib.hid (Draws.grown_trans HG.out hg); clear hs hg)
      | (go_at_call 62; refine (Draws.pick_lit _ _ _ _ Draws.I64 _ _ HS.out (by first | rfl | simp) (by rfl) (by decide) (by decide) (by repeat (first | exact Draws.all_nil _ | refine Draws.all_cons ⟨_, rfl, by first | exact Draws.wrap_I64 _ | (unfold Draws.I64; omega)⟩ ?_))).mono ?_; rintro e w' ⟨x, rfl, x0, hs, hg⟩; have HS := Lib.hid hs; have HG := Lib.hid (Draws.grown_trans HG.out hg); clear hs hg; unfold Draws.I64 at x0)
      | (go_at_call 67; refine (Draws.money_any _ _ HS.out).mono ?_; rintro e w' ⟨x, rfl, x0, hs, hg⟩; have HS := Lib.hid hs; have HG := Lib.hid (Draws.grown_trans HG.out hg); clear hs hg; unfold Draws.I64 at x0)
      | (go_at_call 80; refine (Draws.month_any _ _ HS.out).mono ?_; rintro e w' ⟨x, rfl, x0, hs, hg⟩; have HS := Lib.hid hs; have HG := Lib.hid (Draws.grown_trans HG.out hg); clear hs hg; unfold Draws.I64 at x0)
      | (go_at_call 88; refine (Draws.rate_any _ _ HS.out).mono ?_; rintro e w' ⟨x, rfl, x0, hs, hg⟩; have HS := Lib.hid hs; have HG := Lib.hid (Draws.grown_trans HG.out hg); clear hs hg; unfold Draws.I64 at x0)
      | (go_at_call 75; refine (Draws.pair_any _ _ HS.out).mono ?_; rintro e w' ⟨x, y, rfl, x0, y0, hs, hg⟩; have HS := Lib.hid hs; have HG := Lib.hid (Draws.grown_trans HG.out hg); clear hs hg; unfold Draws.I64 at x0 y0)
     )
  all_goals
    go_ret
    exact ⟨_, rfl, (by first | exact wrap_I64 _ | (unfold I64; omega)), HS.out, HG.out⟩

set_option maxRecDepth 100000 in
theorem rate_any (p : Nat) (w : World) (h : Src w p) : Calls Try.prog 88 #[.pointer (some ⟨p, 0, none⟩)] w (Picked p I64 w) := by
  have HS := Lib.hid h
  have HG := Lib.hid (grown_refl w (some p))
  clear h
  go_enter Try.func88, Try.ntmps88
  go_wp2_with (first
      | (go_at_call 61; (first | refine (Draws.next_lit _ _ _ HS.out (by omega) (by omega)).mono ?_ | refine (Draws.next_any _ _ _ HS.out (by omega)).mono ?_); rintro e w' ⟨x, rfl, x0, x1, hs, hg⟩; have HS := Lib.hid hs; have HG := Lib.hid (Draws.grown_trans HG.out hg); clear hs hg)
      | (go_at_call 62; refine (Draws.pick_lit _ _ _ _ Draws.I64 _ _ HS.out (by first | rfl | simp) (by rfl) (by decide) (by decide) (by repeat (first | exact Draws.all_nil _ | refine Draws.all_cons ⟨_, rfl, by first | exact Draws.wrap_I64 _ | (unfold Draws.I64; omega)⟩ ?_))).mono ?_; rintro e w' ⟨x, rfl, x0, hs, hg⟩; have HS := Lib.hid hs; have HG := Lib.hid (Draws.grown_trans HG.out hg); clear hs hg; unfold Draws.I64 at x0)
      | (go_at_call 67; refine (Draws.money_any _ _ HS.out).mono ?_; rintro e w' ⟨x, rfl, x0, hs, hg⟩; have HS := Lib.hid hs; have HG := Lib.hid (Draws.grown_trans HG.out hg); clear hs hg; unfold Draws.I64 at x0)
      | (go_at_call 80; refine (Draws.month_any _ _ HS.out).mono ?_; rintro e w' ⟨x, rfl, x0, hs, hg⟩; have HS := Lib.hid hs; have HG := Lib.hid (Draws.grown_trans HG.out hg); clear hs hg; unfold Draws.I64 at x0)
      | (go_at_call 88; refine (Draws.rate_any _ _ HS.out).mono ?_; rintro e w' ⟨x, rfl, x0, hs, hg⟩; have HS := Lib.hid hs; have HG := Lib.hid (Draws.grown_trans HG.out hg); clear hs hg; unfold Draws.I64 at x0)
      | (go_at_call 75; refine (Draws.pair_any _ _ HS.out).mono ?_; rintro e w' ⟨x, y, rfl, x0, y0, hs, hg⟩; have HS := Lib.hid hs; have HG := Lib.hid (Draws.grown_trans HG.out hg); clear hs hg; unfold Draws.I64 at x0 y0)
     )
  all_goals
    go_ret
    exact ⟨_, rfl, (by first | exact wrap_I64 _ | (unfold I64; omega)), HS.out, HG.out⟩

set_option maxRecDepth 100000 in
theorem pair_any (p : Nat) (w : World) (h : Src w p) : Calls Try.prog 75 #[.pointer (some ⟨p, 0, none⟩)] w (Picked2 p w) := by
  have HS := Lib.hid h
  have HG := Lib.hid (grown_refl w (some p))
  clear h
  go_enter Try.func75, Try.ntmps75
  go_wp2_with (first
      | (go_at_call 61; (first | refine (Draws.next_lit _ _ _ HS.out (by omega) (by omega)).mono ?_ | refine (Draws.next_any _ _ _ HS.out (by omega)).mono ?_); rintro e w' ⟨x, rfl, x0, x1, hs, hg⟩; have HS := Lib.hid hs; have HG := Lib.hid (Draws.grown_trans HG.out hg); clear hs hg)
      | (go_at_call 62; refine (Draws.pick_lit _ _ _ _ Draws.I64 _ _ HS.out (by first | rfl | simp) (by rfl) (by decide) (by decide) (by repeat (first | exact Draws.all_nil _ | refine Draws.all_cons ⟨_, rfl, by first | exact Draws.wrap_I64 _ | (unfold Draws.I64; omega)⟩ ?_))).mono ?_; rintro e w' ⟨x, rfl, x0, hs, hg⟩; have HS := Lib.hid hs; have HG := Lib.hid (Draws.grown_trans HG.out hg); clear hs hg; unfold Draws.I64 at x0)
      | (go_at_call 67; refine (Draws.money_any _ _ HS.out).mono ?_; rintro e w' ⟨x, rfl, x0, hs, hg⟩; have HS := Lib.hid hs; have HG := Lib.hid (Draws.grown_trans HG.out hg); clear hs hg; unfold Draws.I64 at x0)
      | (go_at_call 80; refine (Draws.month_any _ _ HS.out).mono ?_; rintro e w' ⟨x, rfl, x0, hs, hg⟩; have HS := Lib.hid hs; have HG := Lib.hid (Draws.grown_trans HG.out hg); clear hs hg; unfold Draws.I64 at x0)
      | (go_at_call 88; refine (Draws.rate_any _ _ HS.out).mono ?_; rintro e w' ⟨x, rfl, x0, hs, hg⟩; have HS := Lib.hid hs; have HG := Lib.hid (Draws.grown_trans HG.out hg); clear hs hg; unfold Draws.I64 at x0)
      | (go_at_call 75; refine (Draws.pair_any _ _ HS.out).mono ?_; rintro e w' ⟨x, y, rfl, x0, y0, hs, hg⟩; have HS := Lib.hid hs; have HG := Lib.hid (Draws.grown_trans HG.out hg); clear hs hg; unfold Draws.I64 at x0 y0)
     )
  all_goals
    go_ret2
    exact ⟨_, _, rfl, (by first | exact wrap_I64 _ | (unfold I64; omega)), (by first | exact wrap_I64 _ | (unfold I64; omega)), HS.out, HG.out⟩

set_option maxRecDepth 100000 in
theorem drawCommonFactor (a : Option Addr) (len cap : Nat) (zs : List Int) (w : World) (h : IsRow .u8 w a len cap zs) (hl : len ≤ 4096) :
    Calls Try.prog 12 #[.slice a len cap] w (Two w) := by
  go_enter Try.func12, Try.ntmps12
  go_wp2_with fail
  refine (from_any a len cap zs w h hl).mono ?_; rintro e w1 ⟨p, rfl, hp, hs, hb⟩
  have HP := Lib.hid hp
  have HB := Lib.hid hb
  have HS := Lib.hid hs
  have HG := Lib.hid (grown_refl w1 (some p))
  clear h hp hb hs
  go_wp2_with (first
      | (go_at_call 61; (first | refine (Draws.next_lit _ _ _ HS.out (by omega) (by omega)).mono ?_ | refine (Draws.next_any _ _ _ HS.out (by omega)).mono ?_); rintro e w' ⟨x, rfl, x0, x1, hs, hg⟩; have HS := Lib.hid hs; have HG := Lib.hid (Draws.grown_trans HG.out hg); clear hs hg)
      | (go_at_call 62; refine (Draws.pick_lit _ _ _ _ Draws.I64 _ _ HS.out (by first | rfl | simp) (by rfl) (by decide) (by decide) (by repeat (first | exact Draws.all_nil _ | refine Draws.all_cons ⟨_, rfl, by first | exact Draws.wrap_I64 _ | (unfold Draws.I64; omega)⟩ ?_))).mono ?_; rintro e w' ⟨x, rfl, x0, hs, hg⟩; have HS := Lib.hid hs; have HG := Lib.hid (Draws.grown_trans HG.out hg); clear hs hg; unfold Draws.I64 at x0)
      | (go_at_call 67; refine (Draws.money_any _ _ HS.out).mono ?_; rintro e w' ⟨x, rfl, x0, hs, hg⟩; have HS := Lib.hid hs; have HG := Lib.hid (Draws.grown_trans HG.out hg); clear hs hg; unfold Draws.I64 at x0)
      | (go_at_call 80; refine (Draws.month_any _ _ HS.out).mono ?_; rintro e w' ⟨x, rfl, x0, hs, hg⟩; have HS := Lib.hid hs; have HG := Lib.hid (Draws.grown_trans HG.out hg); clear hs hg; unfold Draws.I64 at x0)
      | (go_at_call 88; refine (Draws.rate_any _ _ HS.out).mono ?_; rintro e w' ⟨x, rfl, x0, hs, hg⟩; have HS := Lib.hid hs; have HG := Lib.hid (Draws.grown_trans HG.out hg); clear hs hg; unfold Draws.I64 at x0)
      | (go_at_call 75; refine (Draws.pair_any _ _ HS.out).mono ?_; rintro e w' ⟨x, y, rfl, x0, y0, hs, hg⟩; have HS := Lib.hid hs; have HG := Lib.hid (Draws.grown_trans HG.out hg); clear hs hg; unfold Draws.I64 at x0 y0)
     )
  all_goals
    go_ret2
    exact ⟨_, _, rfl, (by first | exact wrap_I64 _ | (unfold I64; omega)), (by first | exact wrap_I64 _ | (unfold I64; omega)), grown_below HB.out HP.out HB.out.size HG.out⟩

set_option maxRecDepth 100000 in
theorem drawDivideDown (a : Option Addr) (len cap : Nat) (zs : List Int) (w : World) (h : IsRow .u8 w a len cap zs) (hl : len ≤ 4096) :
    Calls Try.prog 15 #[.slice a len cap] w (Two w) := by
  go_enter Try.func15, Try.ntmps15
  go_wp2_with fail
  refine (from_any a len cap zs w h hl).mono ?_; rintro e w1 ⟨p, rfl, hp, hs, hb⟩
  have HP := Lib.hid hp
  have HB := Lib.hid hb
  have HS := Lib.hid hs
  have HG := Lib.hid (grown_refl w1 (some p))
  clear h hp hb hs
  go_wp2_with (first
      | (go_at_call 61; (first | refine (Draws.next_lit _ _ _ HS.out (by omega) (by omega)).mono ?_ | refine (Draws.next_any _ _ _ HS.out (by omega)).mono ?_); rintro e w' ⟨x, rfl, x0, x1, hs, hg⟩; have HS := Lib.hid hs; have HG := Lib.hid (Draws.grown_trans HG.out hg); clear hs hg)
      | (go_at_call 62; refine (Draws.pick_lit _ _ _ _ Draws.I64 _ _ HS.out (by first | rfl | simp) (by rfl) (by decide) (by decide) (by repeat (first | exact Draws.all_nil _ | refine Draws.all_cons ⟨_, rfl, by first | exact Draws.wrap_I64 _ | (unfold Draws.I64; omega)⟩ ?_))).mono ?_; rintro e w' ⟨x, rfl, x0, hs, hg⟩; have HS := Lib.hid hs; have HG := Lib.hid (Draws.grown_trans HG.out hg); clear hs hg; unfold Draws.I64 at x0)
      | (go_at_call 67; refine (Draws.money_any _ _ HS.out).mono ?_; rintro e w' ⟨x, rfl, x0, hs, hg⟩; have HS := Lib.hid hs; have HG := Lib.hid (Draws.grown_trans HG.out hg); clear hs hg; unfold Draws.I64 at x0)
      | (go_at_call 80; refine (Draws.month_any _ _ HS.out).mono ?_; rintro e w' ⟨x, rfl, x0, hs, hg⟩; have HS := Lib.hid hs; have HG := Lib.hid (Draws.grown_trans HG.out hg); clear hs hg; unfold Draws.I64 at x0)
      | (go_at_call 88; refine (Draws.rate_any _ _ HS.out).mono ?_; rintro e w' ⟨x, rfl, x0, hs, hg⟩; have HS := Lib.hid hs; have HG := Lib.hid (Draws.grown_trans HG.out hg); clear hs hg; unfold Draws.I64 at x0)
      | (go_at_call 75; refine (Draws.pair_any _ _ HS.out).mono ?_; rintro e w' ⟨x, y, rfl, x0, y0, hs, hg⟩; have HS := Lib.hid hs; have HG := Lib.hid (Draws.grown_trans HG.out hg); clear hs hg; unfold Draws.I64 at x0 y0)
     )
  all_goals
    go_ret2
    exact ⟨_, _, rfl, (by first | exact wrap_I64 _ | (unfold I64; omega)), (by first | exact wrap_I64 _ | (unfold I64; omega)), grown_below HB.out HP.out HB.out.size HG.out⟩

set_option maxRecDepth 100000 in
theorem drawPerMille (a : Option Addr) (len cap : Nat) (zs : List Int) (w : World) (h : IsRow .u8 w a len cap zs) (hl : len ≤ 4096) :
    Calls Try.prog 20 #[.slice a len cap] w (Two w) := by
  go_enter Try.func20, Try.ntmps20
  go_wp2_with fail
  refine (from_any a len cap zs w h hl).mono ?_; rintro e w1 ⟨p, rfl, hp, hs, hb⟩
  have HP := Lib.hid hp
  have HB := Lib.hid hb
  have HS := Lib.hid hs
  have HG := Lib.hid (grown_refl w1 (some p))
  clear h hp hb hs
  go_wp2_with (first
      | (go_at_call 61; (first | refine (Draws.next_lit _ _ _ HS.out (by omega) (by omega)).mono ?_ | refine (Draws.next_any _ _ _ HS.out (by omega)).mono ?_); rintro e w' ⟨x, rfl, x0, x1, hs, hg⟩; have HS := Lib.hid hs; have HG := Lib.hid (Draws.grown_trans HG.out hg); clear hs hg)
      | (go_at_call 62; refine (Draws.pick_lit _ _ _ _ Draws.I64 _ _ HS.out (by first | rfl | simp) (by rfl) (by decide) (by decide) (by repeat (first | exact Draws.all_nil _ | refine Draws.all_cons ⟨_, rfl, by first | exact Draws.wrap_I64 _ | (unfold Draws.I64; omega)⟩ ?_))).mono ?_; rintro e w' ⟨x, rfl, x0, hs, hg⟩; have HS := Lib.hid hs; have HG := Lib.hid (Draws.grown_trans HG.out hg); clear hs hg; unfold Draws.I64 at x0)
      | (go_at_call 67; refine (Draws.money_any _ _ HS.out).mono ?_; rintro e w' ⟨x, rfl, x0, hs, hg⟩; have HS := Lib.hid hs; have HG := Lib.hid (Draws.grown_trans HG.out hg); clear hs hg; unfold Draws.I64 at x0)
      | (go_at_call 80; refine (Draws.month_any _ _ HS.out).mono ?_; rintro e w' ⟨x, rfl, x0, hs, hg⟩; have HS := Lib.hid hs; have HG := Lib.hid (Draws.grown_trans HG.out hg); clear hs hg; unfold Draws.I64 at x0)
      | (go_at_call 88; refine (Draws.rate_any _ _ HS.out).mono ?_; rintro e w' ⟨x, rfl, x0, hs, hg⟩; have HS := Lib.hid hs; have HG := Lib.hid (Draws.grown_trans HG.out hg); clear hs hg; unfold Draws.I64 at x0)
      | (go_at_call 75; refine (Draws.pair_any _ _ HS.out).mono ?_; rintro e w' ⟨x, y, rfl, x0, y0, hs, hg⟩; have HS := Lib.hid hs; have HG := Lib.hid (Draws.grown_trans HG.out hg); clear hs hg; unfold Draws.I64 at x0 y0)
     )
  all_goals
    go_ret2
    exact ⟨_, _, rfl, (by first | exact wrap_I64 _ | (unfold I64; omega)), (by first | exact wrap_I64 _ | (unfold I64; omega)), grown_below HB.out HP.out HB.out.size HG.out⟩

set_option maxRecDepth 100000 in
theorem drawAgeIn (a : Option Addr) (len cap : Nat) (zs : List Int) (w : World) (h : IsRow .u8 w a len cap zs) (hl : len ≤ 4096) :
    Calls Try.prog 23 #[.slice a len cap] w (Two w) := by
  go_enter Try.func23, Try.ntmps23
  go_wp2_with fail
  refine (from_any a len cap zs w h hl).mono ?_; rintro e w1 ⟨p, rfl, hp, hs, hb⟩
  have HP := Lib.hid hp
  have HB := Lib.hid hb
  have HS := Lib.hid hs
  have HG := Lib.hid (grown_refl w1 (some p))
  clear h hp hb hs
  go_wp2_with (first
      | (go_at_call 61; (first | refine (Draws.next_lit _ _ _ HS.out (by omega) (by omega)).mono ?_ | refine (Draws.next_any _ _ _ HS.out (by omega)).mono ?_); rintro e w' ⟨x, rfl, x0, x1, hs, hg⟩; have HS := Lib.hid hs; have HG := Lib.hid (Draws.grown_trans HG.out hg); clear hs hg)
      | (go_at_call 62; refine (Draws.pick_lit _ _ _ _ Draws.I64 _ _ HS.out (by first | rfl | simp) (by rfl) (by decide) (by decide) (by repeat (first | exact Draws.all_nil _ | refine Draws.all_cons ⟨_, rfl, by first | exact Draws.wrap_I64 _ | (unfold Draws.I64; omega)⟩ ?_))).mono ?_; rintro e w' ⟨x, rfl, x0, hs, hg⟩; have HS := Lib.hid hs; have HG := Lib.hid (Draws.grown_trans HG.out hg); clear hs hg; unfold Draws.I64 at x0)
      | (go_at_call 67; refine (Draws.money_any _ _ HS.out).mono ?_; rintro e w' ⟨x, rfl, x0, hs, hg⟩; have HS := Lib.hid hs; have HG := Lib.hid (Draws.grown_trans HG.out hg); clear hs hg; unfold Draws.I64 at x0)
      | (go_at_call 80; refine (Draws.month_any _ _ HS.out).mono ?_; rintro e w' ⟨x, rfl, x0, hs, hg⟩; have HS := Lib.hid hs; have HG := Lib.hid (Draws.grown_trans HG.out hg); clear hs hg; unfold Draws.I64 at x0)
      | (go_at_call 88; refine (Draws.rate_any _ _ HS.out).mono ?_; rintro e w' ⟨x, rfl, x0, hs, hg⟩; have HS := Lib.hid hs; have HG := Lib.hid (Draws.grown_trans HG.out hg); clear hs hg; unfold Draws.I64 at x0)
      | (go_at_call 75; refine (Draws.pair_any _ _ HS.out).mono ?_; rintro e w' ⟨x, y, rfl, x0, y0, hs, hg⟩; have HS := Lib.hid hs; have HG := Lib.hid (Draws.grown_trans HG.out hg); clear hs hg; unfold Draws.I64 at x0 y0)
     )
  all_goals
    go_ret2
    exact ⟨_, _, rfl, (by first | exact wrap_I64 _ | (unfold I64; omega)), (by first | exact wrap_I64 _ | (unfold I64; omega)), grown_below HB.out HP.out HB.out.size HG.out⟩

set_option maxRecDepth 100000 in
theorem drawAddMonths (a : Option Addr) (len cap : Nat) (zs : List Int) (w : World) (h : IsRow .u8 w a len cap zs) (hl : len ≤ 4096) :
    Calls Try.prog 30 #[.slice a len cap] w (Two w) := by
  go_enter Try.func30, Try.ntmps30
  go_wp2_with fail
  refine (from_any a len cap zs w h hl).mono ?_; rintro e w1 ⟨p, rfl, hp, hs, hb⟩
  have HP := Lib.hid hp
  have HB := Lib.hid hb
  have HS := Lib.hid hs
  have HG := Lib.hid (grown_refl w1 (some p))
  clear h hp hb hs
  go_wp2_with (first
      | (go_at_call 61; (first | refine (Draws.next_lit _ _ _ HS.out (by omega) (by omega)).mono ?_ | refine (Draws.next_any _ _ _ HS.out (by omega)).mono ?_); rintro e w' ⟨x, rfl, x0, x1, hs, hg⟩; have HS := Lib.hid hs; have HG := Lib.hid (Draws.grown_trans HG.out hg); clear hs hg)
      | (go_at_call 62; refine (Draws.pick_lit _ _ _ _ Draws.I64 _ _ HS.out (by first | rfl | simp) (by rfl) (by decide) (by decide) (by repeat (first | exact Draws.all_nil _ | refine Draws.all_cons ⟨_, rfl, by first | exact Draws.wrap_I64 _ | (unfold Draws.I64; omega)⟩ ?_))).mono ?_; rintro e w' ⟨x, rfl, x0, hs, hg⟩; have HS := Lib.hid hs; have HG := Lib.hid (Draws.grown_trans HG.out hg); clear hs hg; unfold Draws.I64 at x0)
      | (go_at_call 67; refine (Draws.money_any _ _ HS.out).mono ?_; rintro e w' ⟨x, rfl, x0, hs, hg⟩; have HS := Lib.hid hs; have HG := Lib.hid (Draws.grown_trans HG.out hg); clear hs hg; unfold Draws.I64 at x0)
      | (go_at_call 80; refine (Draws.month_any _ _ HS.out).mono ?_; rintro e w' ⟨x, rfl, x0, hs, hg⟩; have HS := Lib.hid hs; have HG := Lib.hid (Draws.grown_trans HG.out hg); clear hs hg; unfold Draws.I64 at x0)
      | (go_at_call 88; refine (Draws.rate_any _ _ HS.out).mono ?_; rintro e w' ⟨x, rfl, x0, hs, hg⟩; have HS := Lib.hid hs; have HG := Lib.hid (Draws.grown_trans HG.out hg); clear hs hg; unfold Draws.I64 at x0)
      | (go_at_call 75; refine (Draws.pair_any _ _ HS.out).mono ?_; rintro e w' ⟨x, y, rfl, x0, y0, hs, hg⟩; have HS := Lib.hid hs; have HG := Lib.hid (Draws.grown_trans HG.out hg); clear hs hg; unfold Draws.I64 at x0 y0)
     )
  all_goals
    go_ret2
    exact ⟨_, _, rfl, (by first | exact wrap_I64 _ | (unfold I64; omega)), (by first | exact wrap_I64 _ | (unfold I64; omega)), grown_below HB.out HP.out HB.out.size HG.out⟩

set_option maxRecDepth 100000 in
theorem drawMultiplyDivide (a : Option Addr) (len cap : Nat) (zs : List Int) (w : World) (h : IsRow .u8 w a len cap zs) (hl : len ≤ 4096) :
    Calls Try.prog 33 #[.slice a len cap] w (Three w) := by
  go_enter Try.func33, Try.ntmps33
  go_wp2_with fail
  refine (from_any a len cap zs w h hl).mono ?_; rintro e w1 ⟨p, rfl, hp, hs, hb⟩
  have HP := Lib.hid hp
  have HB := Lib.hid hb
  have HS := Lib.hid hs
  have HG := Lib.hid (grown_refl w1 (some p))
  clear h hp hb hs
  go_wp2_with (first
      | (go_at_call 61; (first | refine (Draws.next_lit _ _ _ HS.out (by omega) (by omega)).mono ?_ | refine (Draws.next_any _ _ _ HS.out (by omega)).mono ?_); rintro e w' ⟨x, rfl, x0, x1, hs, hg⟩; have HS := Lib.hid hs; have HG := Lib.hid (Draws.grown_trans HG.out hg); clear hs hg)
      | (go_at_call 62; refine (Draws.pick_lit _ _ _ _ Draws.I64 _ _ HS.out (by first | rfl | simp) (by rfl) (by decide) (by decide) (by repeat (first | exact Draws.all_nil _ | refine Draws.all_cons ⟨_, rfl, by first | exact Draws.wrap_I64 _ | (unfold Draws.I64; omega)⟩ ?_))).mono ?_; rintro e w' ⟨x, rfl, x0, hs, hg⟩; have HS := Lib.hid hs; have HG := Lib.hid (Draws.grown_trans HG.out hg); clear hs hg; unfold Draws.I64 at x0)
      | (go_at_call 67; refine (Draws.money_any _ _ HS.out).mono ?_; rintro e w' ⟨x, rfl, x0, hs, hg⟩; have HS := Lib.hid hs; have HG := Lib.hid (Draws.grown_trans HG.out hg); clear hs hg; unfold Draws.I64 at x0)
      | (go_at_call 80; refine (Draws.month_any _ _ HS.out).mono ?_; rintro e w' ⟨x, rfl, x0, hs, hg⟩; have HS := Lib.hid hs; have HG := Lib.hid (Draws.grown_trans HG.out hg); clear hs hg; unfold Draws.I64 at x0)
      | (go_at_call 88; refine (Draws.rate_any _ _ HS.out).mono ?_; rintro e w' ⟨x, rfl, x0, hs, hg⟩; have HS := Lib.hid hs; have HG := Lib.hid (Draws.grown_trans HG.out hg); clear hs hg; unfold Draws.I64 at x0)
      | (go_at_call 75; refine (Draws.pair_any _ _ HS.out).mono ?_; rintro e w' ⟨x, y, rfl, x0, y0, hs, hg⟩; have HS := Lib.hid hs; have HG := Lib.hid (Draws.grown_trans HG.out hg); clear hs hg; unfold Draws.I64 at x0 y0)
     )
  all_goals
    go_ret3
    exact ⟨_, _, _, rfl, (by first | exact wrap_I64 _ | (unfold I64; omega)), (by first | exact wrap_I64 _ | (unfold I64; omega)), (by first | exact wrap_I64 _ | (unfold I64; omega)), grown_below HB.out HP.out HB.out.size HG.out⟩

set_option maxRecDepth 100000 in
theorem drawRateBetween (a : Option Addr) (len cap : Nat) (zs : List Int) (w : World) (h : IsRow .u8 w a len cap zs) (hl : len ≤ 4096) :
    Calls Try.prog 36 #[.slice a len cap] w (Three w) := by
  go_enter Try.func36, Try.ntmps36
  go_wp2_with fail
  refine (from_any a len cap zs w h hl).mono ?_; rintro e w1 ⟨p, rfl, hp, hs, hb⟩
  have HP := Lib.hid hp
  have HB := Lib.hid hb
  have HS := Lib.hid hs
  have HG := Lib.hid (grown_refl w1 (some p))
  clear h hp hb hs
  go_wp2_with (first
      | (go_at_call 61; (first | refine (Draws.next_lit _ _ _ HS.out (by omega) (by omega)).mono ?_ | refine (Draws.next_any _ _ _ HS.out (by omega)).mono ?_); rintro e w' ⟨x, rfl, x0, x1, hs, hg⟩; have HS := Lib.hid hs; have HG := Lib.hid (Draws.grown_trans HG.out hg); clear hs hg)
      | (go_at_call 62; refine (Draws.pick_lit _ _ _ _ Draws.I64 _ _ HS.out (by first | rfl | simp) (by rfl) (by decide) (by decide) (by repeat (first | exact Draws.all_nil _ | refine Draws.all_cons ⟨_, rfl, by first | exact Draws.wrap_I64 _ | (unfold Draws.I64; omega)⟩ ?_))).mono ?_; rintro e w' ⟨x, rfl, x0, hs, hg⟩; have HS := Lib.hid hs; have HG := Lib.hid (Draws.grown_trans HG.out hg); clear hs hg; unfold Draws.I64 at x0)
      | (go_at_call 67; refine (Draws.money_any _ _ HS.out).mono ?_; rintro e w' ⟨x, rfl, x0, hs, hg⟩; have HS := Lib.hid hs; have HG := Lib.hid (Draws.grown_trans HG.out hg); clear hs hg; unfold Draws.I64 at x0)
      | (go_at_call 80; refine (Draws.month_any _ _ HS.out).mono ?_; rintro e w' ⟨x, rfl, x0, hs, hg⟩; have HS := Lib.hid hs; have HG := Lib.hid (Draws.grown_trans HG.out hg); clear hs hg; unfold Draws.I64 at x0)
      | (go_at_call 88; refine (Draws.rate_any _ _ HS.out).mono ?_; rintro e w' ⟨x, rfl, x0, hs, hg⟩; have HS := Lib.hid hs; have HG := Lib.hid (Draws.grown_trans HG.out hg); clear hs hg; unfold Draws.I64 at x0)
      | (go_at_call 75; refine (Draws.pair_any _ _ HS.out).mono ?_; rintro e w' ⟨x, y, rfl, x0, y0, hs, hg⟩; have HS := Lib.hid hs; have HG := Lib.hid (Draws.grown_trans HG.out hg); clear hs hg; unfold Draws.I64 at x0 y0)
     )
  all_goals
    go_ret3
    exact ⟨_, _, _, rfl, (by first | exact wrap_I64 _ | (unfold I64; omega)), (by first | exact wrap_I64 _ | (unfold I64; omega)), (by first | exact wrap_I64 _ | (unfold I64; omega)), grown_below HB.out HP.out HB.out.size HG.out⟩

set_option maxRecDepth 100000 in
theorem drawGrowAmount (a : Option Addr) (len cap : Nat) (zs : List Int) (w : World) (h : IsRow .u8 w a len cap zs) (hl : len ≤ 4096) :
    Calls Try.prog 39 #[.slice a len cap] w (Three w) := by
  go_enter Try.func39, Try.ntmps39
  go_wp2_with fail
  refine (from_any a len cap zs w h hl).mono ?_; rintro e w1 ⟨p, rfl, hp, hs, hb⟩
  have HP := Lib.hid hp
  have HB := Lib.hid hb
  have HS := Lib.hid hs
  have HG := Lib.hid (grown_refl w1 (some p))
  clear h hp hb hs
  go_wp2_with (first
      | (go_at_call 61; (first | refine (Draws.next_lit _ _ _ HS.out (by omega) (by omega)).mono ?_ | refine (Draws.next_any _ _ _ HS.out (by omega)).mono ?_); rintro e w' ⟨x, rfl, x0, x1, hs, hg⟩; have HS := Lib.hid hs; have HG := Lib.hid (Draws.grown_trans HG.out hg); clear hs hg)
      | (go_at_call 62; refine (Draws.pick_lit _ _ _ _ Draws.I64 _ _ HS.out (by first | rfl | simp) (by rfl) (by decide) (by decide) (by repeat (first | exact Draws.all_nil _ | refine Draws.all_cons ⟨_, rfl, by first | exact Draws.wrap_I64 _ | (unfold Draws.I64; omega)⟩ ?_))).mono ?_; rintro e w' ⟨x, rfl, x0, hs, hg⟩; have HS := Lib.hid hs; have HG := Lib.hid (Draws.grown_trans HG.out hg); clear hs hg; unfold Draws.I64 at x0)
      | (go_at_call 67; refine (Draws.money_any _ _ HS.out).mono ?_; rintro e w' ⟨x, rfl, x0, hs, hg⟩; have HS := Lib.hid hs; have HG := Lib.hid (Draws.grown_trans HG.out hg); clear hs hg; unfold Draws.I64 at x0)
      | (go_at_call 80; refine (Draws.month_any _ _ HS.out).mono ?_; rintro e w' ⟨x, rfl, x0, hs, hg⟩; have HS := Lib.hid hs; have HG := Lib.hid (Draws.grown_trans HG.out hg); clear hs hg; unfold Draws.I64 at x0)
      | (go_at_call 88; refine (Draws.rate_any _ _ HS.out).mono ?_; rintro e w' ⟨x, rfl, x0, hs, hg⟩; have HS := Lib.hid hs; have HG := Lib.hid (Draws.grown_trans HG.out hg); clear hs hg; unfold Draws.I64 at x0)
      | (go_at_call 75; refine (Draws.pair_any _ _ HS.out).mono ?_; rintro e w' ⟨x, y, rfl, x0, y0, hs, hg⟩; have HS := Lib.hid hs; have HG := Lib.hid (Draws.grown_trans HG.out hg); clear hs hg; unfold Draws.I64 at x0 y0)
     )
  all_goals
    go_ret3
    exact ⟨_, _, _, rfl, (by first | exact wrap_I64 _ | (unfold I64; omega)), (by first | exact wrap_I64 _ | (unfold I64; omega)), (by first | exact wrap_I64 _ | (unfold I64; omega)), grown_below HB.out HP.out HB.out.size HG.out⟩

set_option maxRecDepth 100000 in
theorem drawDoublingYears (a : Option Addr) (len cap : Nat) (zs : List Int) (w : World) (h : IsRow .u8 w a len cap zs) (hl : len ≤ 4096) :
    Calls Try.prog 42 #[.slice a len cap] w (One w) := by
  go_enter Try.func42, Try.ntmps42
  go_wp2_with fail
  refine (from_any a len cap zs w h hl).mono ?_; rintro e w1 ⟨p, rfl, hp, hs, hb⟩
  have HP := Lib.hid hp
  have HB := Lib.hid hb
  have HS := Lib.hid hs
  have HG := Lib.hid (grown_refl w1 (some p))
  clear h hp hb hs
  go_wp2_with (first
      | (go_at_call 61; (first | refine (Draws.next_lit _ _ _ HS.out (by omega) (by omega)).mono ?_ | refine (Draws.next_any _ _ _ HS.out (by omega)).mono ?_); rintro e w' ⟨x, rfl, x0, x1, hs, hg⟩; have HS := Lib.hid hs; have HG := Lib.hid (Draws.grown_trans HG.out hg); clear hs hg)
      | (go_at_call 62; refine (Draws.pick_lit _ _ _ _ Draws.I64 _ _ HS.out (by first | rfl | simp) (by rfl) (by decide) (by decide) (by repeat (first | exact Draws.all_nil _ | refine Draws.all_cons ⟨_, rfl, by first | exact Draws.wrap_I64 _ | (unfold Draws.I64; omega)⟩ ?_))).mono ?_; rintro e w' ⟨x, rfl, x0, hs, hg⟩; have HS := Lib.hid hs; have HG := Lib.hid (Draws.grown_trans HG.out hg); clear hs hg; unfold Draws.I64 at x0)
      | (go_at_call 67; refine (Draws.money_any _ _ HS.out).mono ?_; rintro e w' ⟨x, rfl, x0, hs, hg⟩; have HS := Lib.hid hs; have HG := Lib.hid (Draws.grown_trans HG.out hg); clear hs hg; unfold Draws.I64 at x0)
      | (go_at_call 80; refine (Draws.month_any _ _ HS.out).mono ?_; rintro e w' ⟨x, rfl, x0, hs, hg⟩; have HS := Lib.hid hs; have HG := Lib.hid (Draws.grown_trans HG.out hg); clear hs hg; unfold Draws.I64 at x0)
      | (go_at_call 88; refine (Draws.rate_any _ _ HS.out).mono ?_; rintro e w' ⟨x, rfl, x0, hs, hg⟩; have HS := Lib.hid hs; have HG := Lib.hid (Draws.grown_trans HG.out hg); clear hs hg; unfold Draws.I64 at x0)
      | (go_at_call 75; refine (Draws.pair_any _ _ HS.out).mono ?_; rintro e w' ⟨x, y, rfl, x0, y0, hs, hg⟩; have HS := Lib.hid hs; have HG := Lib.hid (Draws.grown_trans HG.out hg); clear hs hg; unfold Draws.I64 at x0 y0)
     )
  all_goals
    go_ret
    exact ⟨_, rfl, (by first | exact wrap_I64 _ | (unfold I64; omega)), grown_below HB.out HP.out HB.out.size HG.out⟩

set_option maxRecDepth 100000 in
theorem drawLoanPayment (a : Option Addr) (len cap : Nat) (zs : List Int) (w : World) (h : IsRow .u8 w a len cap zs) (hl : len ≤ 4096) :
    Calls Try.prog 91 #[.slice a len cap] w (Three w) := by
  go_enter Try.func91, Try.ntmps91
  go_wp2_with fail
  refine (from_any a len cap zs w h hl).mono ?_; rintro e w1 ⟨p, rfl, hp, hs, hb⟩
  have HP := Lib.hid hp
  have HB := Lib.hid hb
  have HS := Lib.hid hs
  have HG := Lib.hid (grown_refl w1 (some p))
  clear h hp hb hs
  go_wp2_with (first
      | (go_at_call 61; (first | refine (Draws.next_lit _ _ _ HS.out (by omega) (by omega)).mono ?_ | refine (Draws.next_any _ _ _ HS.out (by omega)).mono ?_); rintro e w' ⟨x, rfl, x0, x1, hs, hg⟩; have HS := Lib.hid hs; have HG := Lib.hid (Draws.grown_trans HG.out hg); clear hs hg)
      | (go_at_call 62; refine (Draws.pick_lit _ _ _ _ Draws.I64 _ _ HS.out (by first | rfl | simp) (by rfl) (by decide) (by decide) (by repeat (first | exact Draws.all_nil _ | refine Draws.all_cons ⟨_, rfl, by first | exact Draws.wrap_I64 _ | (unfold Draws.I64; omega)⟩ ?_))).mono ?_; rintro e w' ⟨x, rfl, x0, hs, hg⟩; have HS := Lib.hid hs; have HG := Lib.hid (Draws.grown_trans HG.out hg); clear hs hg; unfold Draws.I64 at x0)
      | (go_at_call 67; refine (Draws.money_any _ _ HS.out).mono ?_; rintro e w' ⟨x, rfl, x0, hs, hg⟩; have HS := Lib.hid hs; have HG := Lib.hid (Draws.grown_trans HG.out hg); clear hs hg; unfold Draws.I64 at x0)
      | (go_at_call 80; refine (Draws.month_any _ _ HS.out).mono ?_; rintro e w' ⟨x, rfl, x0, hs, hg⟩; have HS := Lib.hid hs; have HG := Lib.hid (Draws.grown_trans HG.out hg); clear hs hg; unfold Draws.I64 at x0)
      | (go_at_call 88; refine (Draws.rate_any _ _ HS.out).mono ?_; rintro e w' ⟨x, rfl, x0, hs, hg⟩; have HS := Lib.hid hs; have HG := Lib.hid (Draws.grown_trans HG.out hg); clear hs hg; unfold Draws.I64 at x0)
      | (go_at_call 75; refine (Draws.pair_any _ _ HS.out).mono ?_; rintro e w' ⟨x, y, rfl, x0, y0, hs, hg⟩; have HS := Lib.hid hs; have HG := Lib.hid (Draws.grown_trans HG.out hg); clear hs hg; unfold Draws.I64 at x0 y0)
     )
  all_goals
    go_ret3
    exact ⟨_, _, _, rfl, (by first | exact wrap_I64 _ | (unfold I64; omega)), (by first | exact wrap_I64 _ | (unfold I64; omega)), (by first | exact wrap_I64 _ | (unfold I64; omega)), grown_below HB.out HP.out HB.out.size HG.out⟩

set_option maxRecDepth 100000 in
theorem drawDiscountOf (a : Option Addr) (len cap : Nat) (zs : List Int) (w : World) (h : IsRow .u8 w a len cap zs) (hl : len ≤ 4096) :
    Calls Try.prog 51 #[.slice a len cap] w (Two w) := by
  go_enter Try.func51, Try.ntmps51
  go_wp2_with fail
  refine (from_any a len cap zs w h hl).mono ?_; rintro e w1 ⟨p, rfl, hp, hs, hb⟩
  have HP := Lib.hid hp
  have HB := Lib.hid hb
  have HS := Lib.hid hs
  have HG := Lib.hid (grown_refl w1 (some p))
  clear h hp hb hs
  go_wp2_with (first
      | (go_at_call 61; (first | refine (Draws.next_lit _ _ _ HS.out (by omega) (by omega)).mono ?_ | refine (Draws.next_any _ _ _ HS.out (by omega)).mono ?_); rintro e w' ⟨x, rfl, x0, x1, hs, hg⟩; have HS := Lib.hid hs; have HG := Lib.hid (Draws.grown_trans HG.out hg); clear hs hg)
      | (go_at_call 62; refine (Draws.pick_lit _ _ _ _ Draws.I64 _ _ HS.out (by first | rfl | simp) (by rfl) (by decide) (by decide) (by repeat (first | exact Draws.all_nil _ | refine Draws.all_cons ⟨_, rfl, by first | exact Draws.wrap_I64 _ | (unfold Draws.I64; omega)⟩ ?_))).mono ?_; rintro e w' ⟨x, rfl, x0, hs, hg⟩; have HS := Lib.hid hs; have HG := Lib.hid (Draws.grown_trans HG.out hg); clear hs hg; unfold Draws.I64 at x0)
      | (go_at_call 67; refine (Draws.money_any _ _ HS.out).mono ?_; rintro e w' ⟨x, rfl, x0, hs, hg⟩; have HS := Lib.hid hs; have HG := Lib.hid (Draws.grown_trans HG.out hg); clear hs hg; unfold Draws.I64 at x0)
      | (go_at_call 80; refine (Draws.month_any _ _ HS.out).mono ?_; rintro e w' ⟨x, rfl, x0, hs, hg⟩; have HS := Lib.hid hs; have HG := Lib.hid (Draws.grown_trans HG.out hg); clear hs hg; unfold Draws.I64 at x0)
      | (go_at_call 88; refine (Draws.rate_any _ _ HS.out).mono ?_; rintro e w' ⟨x, rfl, x0, hs, hg⟩; have HS := Lib.hid hs; have HG := Lib.hid (Draws.grown_trans HG.out hg); clear hs hg; unfold Draws.I64 at x0)
      | (go_at_call 75; refine (Draws.pair_any _ _ HS.out).mono ?_; rintro e w' ⟨x, y, rfl, x0, y0, hs, hg⟩; have HS := Lib.hid hs; have HG := Lib.hid (Draws.grown_trans HG.out hg); clear hs hg; unfold Draws.I64 at x0 y0)
     )
  all_goals
    go_ret2
    exact ⟨_, _, rfl, (by first | exact wrap_I64 _ | (unfold I64; omega)), (by first | exact wrap_I64 _ | (unfold I64; omega)), grown_below HB.out HP.out HB.out.size HG.out⟩

theorem drawLoanPlan (a : Option Addr) (len cap : Nat) (zs : List Int) (w : World) (h : IsRow .u8 w a len cap zs) (hl : len ≤ 4096) :
    Calls Try.prog 45 #[.slice a len cap] w (Three w) := by
  go_enter Try.func45, Try.ntmps45
  go_wp2_with fail
  refine (drawLoanPayment a len cap zs w h hl).mono ?_; rintro e w1 ⟨x, y, z, rfl, hx, hy, hz, hb⟩
  have HX := Lib.hid hx
  have HY := Lib.hid hy
  have HZ := Lib.hid hz
  have HB := Lib.hid hb
  clear h hx hy hz hb
  go_wp2
  go_ret3
  exact ⟨_, _, _, rfl, HX.out, HY.out, HZ.out, HB.out⟩

end Go.Proofs.Ytdafgpikgpobbaa.Draws
