/-
  Contracts of the reference's draws of plain numbers.
  Conditions: the code has at most 4096 bytes. What is drawn is some int64: no more is said.
-/
import Derived.Test.YtenaeehefamdmaaDraws2
namespace Go.Proofs.Ytenaeehefamdmaa.Draws
open Go.RowKit Mem
set_option linter.unusedVariables false

/-- A number below a number of at least 1 was drawn. -/
def DrawnL (p : Nat) (n : Int) (w : World) (e : Ending) (w' : World) : Prop := ∃ x : Int, e = .returned (.int .i64 x) ∧ 0 ≤ x ∧ x < n ∧ Src w' p ∧ w.grownBy w' (some p)
theorem next_lit (p : Nat) (n : Int) (w : World) (h : Src w p) (h1 : 1 ≤ n) (hn : n ≤ 9223372036854775807) :
    Calls Try.prog 38 #[.pointer (some ⟨p, 0, none⟩), .int .i64 n] w (DrawnL p n w) :=
  (next_any p n w h hn).mono fun e w' ⟨x, he, h0, h2, hs, hg⟩ => ⟨x, he, h0, by omega, hs, hg⟩

theorem wrap_I64 (n : Int) : I64 (wrap64 n) := by unfold I64 wrap64; omega

def IntIn (P : Int → Prop) (v : Value) : Prop := ∃ x : Int, v = .int .i64 x ∧ P x
theorem all_nil (Q : Value → Prop) : ∀ v ∈ ([] : List Value), Q v := fun v h => by cases h
theorem all_cons {Q : Value → Prop} {a : Value} {l : List Value} (h : Q a) (k : ∀ v ∈ l, Q v) : ∀ v ∈ a :: l, Q v := fun v hv => by
  rcases List.mem_cons.1 hv with rfl | hv
  · exact h
  · exact k v hv

theorem pick_lit (p n b : Nat) (vs : List Value) (P : Int → Prop) (w : World) (e : TypeId) (h : Src w p) (hb : b = w.heap.size) (hl : n = vs.length) (hn : 1 ≤ n) (hn2 : n ≤ 1000) (hv : ∀ v ∈ vs, IntIn P v) :
    Calls Try.prog 39 #[.pointer (some ⟨p, 0, none⟩), .slice (some ⟨b, 0, none⟩) n n] (w.alloc (.cells vs.toArray e)) (Picked p P w) := by
  subst hb
  have hp := h.lt
  refine (pick_any p w.heap.size 0 n n P _ (h.below (b0 _ _)) (by omega) hn hn2 (fun i hi => ?_)).mono ?_
  · obtain ⟨x, hx, px⟩ := hv vs[i] (List.getElem_mem (by omega))
    refine ⟨x, ?_, px⟩
    rw [Nat.zero_add, cell_of_block (heap_alloc_new w _) (by rw [List.getElem?_toArray, List.getElem?_eq_getElem (by omega)]), hx]
  · rintro e w' ⟨x, rfl, px, hs, hg⟩
    exact ⟨x, rfl, px, hs, grown_trans (grown_of_below (b0 _ _) _) hg⟩

theorem pick_lit_d (p n b : Nat) (vs : List Value) (P : Int → Prop) (w : World) (e : TypeId) (h : Src w p) (hb : b = w.heap.size) (hl : n = vs.length) (hn : 1 ≤ n) (hn2 : n ≤ 1000) (hv : ∀ v ∈ vs, IntIn P v) :
    Calls Try.prog 39 #[.pointer (some ⟨p, 0, none⟩), .slice (some ⟨b, 0, none⟩) n n] (w.alloc (.cells vs.toArray e)).drew (Picked p P w) := by
  subst hb
  have hp := h.lt
  refine (pick_any p w.heap.size 0 n n P (w.alloc (.cells vs.toArray e)).drew ((h.below (b0 _ _)).drewN 1) (by omega) hn hn2 (fun i hi => ?_)).mono ?_
  · obtain ⟨x, hx, px⟩ := hv vs[i] (List.getElem_mem (by omega))
    refine ⟨x, ?_, px⟩
    show (w.alloc (.cells vs.toArray e)).cell? _ = _
    rw [Nat.zero_add, cell_of_block (heap_alloc_new w _) (by rw [List.getElem?_toArray, List.getElem?_eq_getElem (by omega)]), hx]
  · rintro e w' ⟨x, rfl, px, hs, hg⟩
    exact ⟨x, rfl, px, hs, grown_trans (grown_trans (grown_of_below (b0 _ _) _) (grown_drewN _ 1 _)) hg⟩

def One (w : World) (e : Ending) (w' : World) : Prop := ∃ a : Int, e = .returned (.int .i64 a) ∧ I64 a ∧ Below w.heap.size w w'
def Two (w : World) (e : Ending) (w' : World) : Prop := ∃ a b : Int, e = .returned (.tuple #[.int .i64 a, .int .i64 b]) ∧ I64 a ∧ I64 b ∧ Below w.heap.size w w'
def Three (w : World) (e : Ending) (w' : World) : Prop := ∃ a b c : Int, e = .returned (.tuple #[.int .i64 a, .int .i64 b, .int .i64 c]) ∧ I64 a ∧ I64 b ∧ I64 c ∧ Below w.heap.size w w'
def Picked2 (p : Nat) (w : World) (e : Ending) (w' : World) : Prop := ∃ a b : Int, e = .returned (.tuple #[.int .i64 a, .int .i64 b]) ∧ I64 a ∧ I64 b ∧ Src w' p ∧ w.grownBy w' (some p)

end Go.Proofs.Ytenaeehefamdmaa.Draws
