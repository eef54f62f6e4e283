/-
  Plain facts on the table that is made out of rates.
  Conditions: as each lemma says.
-/
import Derived.Test.YtochnbljjlloiaaMem
import Derived.Test.YtochnbljjlloiaaPlain
namespace Go.Proofs.Ytochnbljjlloiaa.MakePlain
open Go.RowKit Mem
set_option linter.unusedVariables false

/-- The lives a year later. -/
def nxt (l r : Int) : Int := l - Plain.upq (l * r) 1000
theorem prod_bd {l r : Int} (h0 : 0 ≤ l) (h1 : l ≤ 1000000) (r0 : 0 ≤ r) (r1 : r ≤ 1000) : 0 ≤ l * r ∧ l * r ≤ l * 1000 :=
  ⟨Int.mul_nonneg h0 r0, Int.mul_le_mul_of_nonneg_left r1 h0⟩
theorem nxt_bd {l r : Int} (h0 : 0 ≤ l) (h1 : l ≤ 1000000) (r0 : 0 ≤ r) (r1 : r ≤ 1000) : 0 ≤ nxt l r ∧ nxt l r ≤ l ∧ 0 ≤ Plain.upq (l * r) 1000 ∧ Plain.upq (l * r) 1000 ≤ l := by
  obtain ⟨p0, p1⟩ := prod_bd h0 h1 r0 r1
  unfold nxt Plain.upq
  generalize l * r = p at *
  omega
/-- What follows the first number. -/
def tl : Int → List Int → List Int
  | l, [] => if 0 < l then [0] else []
  | l, r :: rs => if 0 < l then nxt l r :: tl (nxt l r) rs else []
theorem tl_zero {l : Int} (h : l ≤ 0) (rs : List Int) : tl l rs = [] := by
  cases rs with
  | nil => unfold tl; rw [if_neg (by omega)]
  | cons r rs => unfold tl; rw [if_neg (by omega)]
theorem tl_pos {l : Int} (h : 0 < l) (rs : List Int) (k : Nat) (hk : k < rs.length) : tl l (rs.drop k) = nxt l (rs.getD k 0) :: tl (nxt l (rs.getD k 0)) (rs.drop (k + 1)) := by
  rw [List.drop_eq_getElem_cons hk, getD_lt hk]
  show (if 0 < l then _ else _) = _
  rw [if_pos h]
theorem tl_end {l : Int} (rs : List Int) : tl l (rs.drop rs.length) = if 0 < l then [0] else [] := by rw [List.drop_length]; rfl
theorem tl_len (rs : List Int) : ∀ l, (tl l rs).length ≤ rs.length + 1 := by
  induction rs with
  | nil => intro l; unfold tl; split <;> simp
  | cons r rs ih => intro l; unfold tl; split
                    · have := ih (nxt l r); simp; omega
                    · simp
def mkOk (f l : Int) (rs : List Int) : Bool := decide (0 ≤ f ∧ f ≤ 100) && (decide (1 ≤ l ∧ l ≤ 1000000) && (decide ((rs.length : Int) ≤ 118 ∧ (rs.length : Int) ≤ 149 - f) && within 0 1000 rs))
theorem mkOk_of {f l : Int} {rs : List Int} (h : mkOk f l rs = true) : (0 ≤ f ∧ f ≤ 100) ∧ (1 ≤ l ∧ l ≤ 1000000) ∧ ((rs.length : Int) ≤ 118 ∧ (rs.length : Int) ≤ 149 - f) ∧ within 0 1000 rs = true := by
  simpa [mkOk, and_assoc] using h
def mtF (f l : Int) (rs : List Int) : Int := if mkOk f l rs then f else 0
def mtX (f l : Int) (rs : List Int) : List Int := if mkOk f l rs then l :: tl l rs else []
def mtC (f l : Int) (rs : List Int) : Int := if mkOk f l rs then 0 else 2
theorem mt_yes {f l : Int} {rs : List Int} (h : mkOk f l rs = true) : mtF f l rs = f ∧ mtX f l rs = l :: tl l rs ∧ mtC f l rs = 0 := by
  unfold mtF mtX mtC; rw [h]; exact ⟨rfl, rfl, rfl⟩
theorem mt_no {f l : Int} {rs : List Int} (h : mkOk f l rs = false) : mtF f l rs = 0 ∧ mtX f l rs = [] ∧ mtC f l rs = 2 := by
  unfold mtF mtX mtC; rw [h]; exact ⟨rfl, rfl, rfl⟩
theorem mtX_len (f l : Int) (rs : List Int) : (mtX f l rs).length ≤ 120 := by
  cases h : mkOk f l rs with
  | true => rw [(mt_yes h).2.1]; have := (mkOk_of h).2.2.1.1; have := tl_len rs l; simp; omega
  | false => rw [(mt_no h).2.1]; simp
def MtRes (f l : Int) (rs : List Int) (w : World) (e : Ending) (w' : World) : Prop := ∃ v, e = .returned (.tuple #[.agg #[.int .i64 (mtF f l rs), v], .int .i64 (mtC f l rs)]) ∧ Sl w' w.heap.size v (mtX f l rs) ∧ Below w.heap.size w w'
theorem mt_ret {f l : Int} {rs : List Int} {w w' : World} {g c : Int} {xs : List Int} {v : Value} (h : mtF f l rs = g ∧ mtX f l rs = xs ∧ mtC f l rs = c) (hs : Sl w' w.heap.size v xs) (hb : Below w.heap.size w w') : MtRes f l rs w (.returned (.tuple #[.agg #[.int .i64 g, v], .int .i64 c])) w' :=
  ⟨v, by rw [h.1, h.2.2], by rw [h.2.1]; exact hs, hb⟩
end Go.Proofs.Ytochnbljjlloiaa.MakePlain
