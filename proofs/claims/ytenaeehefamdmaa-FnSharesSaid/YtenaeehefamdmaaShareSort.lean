/-
  Contracts of the order of shares, and of the library's stable sort by it.
  Conditions: as each contract says.
-/
import Derived.Test.YtenaeehefamdmaaStable
import Derived.Test.YtenaeehefamdmaaMem
import Derived.Deep.QuietTactic
import Derived.BigQuiet
namespace Go.Proofs.Ytenaeehefamdmaa.Sorts
open Go.Shelf Go.RowKit Go.Lib Go.Sort SortPlain
set_option linter.unusedVariables false

/-- What a share leaves over. -/
def rest (A T : Int) (ws : List Int) (i : Nat) : Int := A * ws.getD i 0 % T
/-- The order by rests: the greater first. -/
def cfR (A T : Int) (ws : List Int) (n : Nat) (i j : Fin (n + 1)) : Int := if rest A T ws j < rest A T ws i then -1 else if rest A T ws i < rest A T ws j then 1 else 0
theorem lt_cfR (A T : Int) (ws : List Int) (n : Nat) (i j : Fin (n + 1)) : ltOf (cfR A T ws n) i j = decide (rest A T ws j < rest A T ws i) := by
  unfold ltOf cfR
  split
  · rename_i h; rw [decide_eq_true h]; rfl
  · rename_i h; rw [decide_eq_false h]
    split <;> rfl
theorem swo_cfR (A T : Int) (ws : List Int) (n : Nat) : SWO (ltOf (cfR A T ws n)) where
  irrefl := fun x => by rw [lt_cfR]; exact decide_eq_false (by omega)
  trans := fun x y z h1 h2 => by
    rw [lt_cfR] at *
    have a := of_decide_eq_true h1
    have b := of_decide_eq_true h2
    exact decide_eq_true (by omega)
  ntrans := fun x y z h1 h2 => by
    rw [lt_cfR] at *
    have a := of_decide_eq_false h1
    have b := of_decide_eq_false h2
    exact decide_eq_false (by omega)
def encR (n : Nat) (i : Fin (n + 1)) : Value := .int .i64 (i.val : Int)

set_option maxHeartbeats 4000000 in
theorem order_any (A T : Int) (ws : List Int) (i j n wc q2 q3 q5 wb wo : Nat) (w : World) (hA : w.cell? ⟨q2, 0, none⟩ = some (.int .i64 A)) (hW : w.cell? ⟨q3, 0, none⟩ = some (.slice (some ⟨wb, wo, none⟩) n wc)) (hT : w.cell? ⟨q5, 0, none⟩ = some (.int .i64 T))
    (hx : ∀ k, k < n → w.cell? ⟨wb, wo + k, none⟩ = some (.int .i64 (ws.getD k 0))) (hw : ∀ k, k < n → 0 ≤ ws.getD k 0 ∧ ws.getD k 0 ≤ 1000000000) (a0 : 0 ≤ A) (a1 : A ≤ 1000000000) (t0 : 1 ≤ T) (t1 : T ≤ 1000000000000) (hi : i < n) (hj : j < n) (hn : n ≤ 1000) :
    Calls Try.prog 50 #[.int .i64 i, .int .i64 j, .pointer (some ⟨q2, 0, none⟩), .pointer (some ⟨q3, 0, none⟩), .pointer (some ⟨q5, 0, none⟩)] w fun e w' => e = .returned (.int .i64 (if rest A T ws j < rest A T ws i then -1 else if rest A T ws i < rest A T ws j then 1 else 0)) ∧ ∃ q, w' = w.drewN q := by
  have ci := hx i hi
  have cj := hx j hj
  have hiz : (i : Int) < (n : Int) := by omega
  have hjz : (j : Int) < (n : Int) := by omega
  have hi0 : (0 : Int) ≤ (i : Int) := by omega
  have hj0 : (0 : Int) ≤ (j : Int) := by omega
  have EI : Hid (rest A T ws i = A * ws.getD i 0 % T) := rfl
  have EJ : Hid (rest A T ws j = A * ws.getD j 0 % T) := rfl
  obtain ⟨x0, x1⟩ := hw i hi
  obtain ⟨y0, y1⟩ := hw j hj
  generalize ws.getD i 0 = x at *
  generalize ws.getD j 0 = y at *
  have p0 : 0 ≤ A * x ∧ A * x ≤ 1000000000000000000 := ⟨Int.mul_nonneg a0 x0, by have := Int.mul_le_mul a1 x1 x0 (by omega); omega⟩
  have r0 : 0 ≤ A * y ∧ A * y ≤ 1000000000000000000 := ⟨Int.mul_nonneg a0 y0, by have := Int.mul_le_mul a1 y1 y0 (by omega); omega⟩
  obtain ⟨P, hP⟩ : ∃ P, A * x = P := ⟨_, rfl⟩
  obtain ⟨Q, hQ⟩ : ∃ P, A * y = P := ⟨_, rfl⟩
  rw [hP] at EI p0
  rw [hQ] at EJ r0
  obtain ⟨p0, p1⟩ := p0
  obtain ⟨r0, r1⟩ := r0
  have W1 : IntKind.i64.wrap (A * x) = P := by rw [hP]; exact IntWalk.i64_in _ (by omega)
  have W2 : IntKind.i64.wrap (A * y) = Q := by rw [hQ]; exact IntWalk.i64_in _ (by omega)
  have ti : P.tmod T = rest A T ws i := by rw [Int.tmod_eq_emod_of_nonneg p0]; exact EI.out.symm
  have tj : Q.tmod T = rest A T ws j := by rw [Int.tmod_eq_emod_of_nonneg r0]; exact EJ.out.symm
  have ei : P % T = rest A T ws i := EI.out.symm
  have ej : Q % T = rest A T ws j := EJ.out.symm
  have hT0 : (T == 0) = false := beq_eq_false_iff_ne.2 (by omega)
  clear hP hQ hx hw EI EJ
  generalize rest A T ws i = ri at *
  generalize rest A T ws j = rj at *
  by_cases h1 : rj < ri
  · rw [if_pos h1]
    go_enter Try.func50, Try.ntmps50
    go_wp2_with fail
    go_quiet (fail)
    go_wp2_with fail
    go_ret
    exact ⟨rfl, _, rfl⟩
  · rw [if_neg h1]
    by_cases h2 : ri < rj
    · rw [if_pos h2]
      go_enter Try.func50, Try.ntmps50
      go_wp2_with fail
      go_quiet (fail)
      go_wp2_with fail
      go_ret
      exact ⟨rfl, _, rfl⟩
    · rw [if_neg h2]
      go_enter Try.func50, Try.ntmps50
      go_wp2_with fail
      go_quiet (fail)
      go_wp2_with fail
      go_ret
      exact ⟨rfl, _, rfl⟩

theorem enters_order : ∀ args w, (callFunc 50 args).run Try.prog w = .ok (.enter 50 args) w := enters_of Try.func50 (by kernel_rfl) rfl
theorem sw_other {α : Type} [Inhabited α] (enc : α → Value) (W : World) (blk off n : Nat) (dk : Array α) (os : Array Obj) (a : Addr) (h1 : a.block ≠ blk) (h2 : a.block < W.heap.size) : (sortWorld enc W blk off n dk os).cell? a = W.cell? a := by
  unfold sortWorld
  exact (cell?_grow _ _ _ (by rw [size_putRow]; exact h2)).trans (cell?_putRow_other enc _ blk off dk a (.inl h1))
theorem one_encR (n : Nat) : OneCell (encR n) := fun x => rfl
/-- Row b holds the numbers 0 .. n of an order. -/
def OrdIs (w : World) (b : Nat) (cap n : Nat) (l : List Nat) : Prop := ∀ k, k < l.length → w.cell? ⟨b, k, none⟩ = some (.int .i64 (l.getD k 0 : Nat))

/-- The numbers 0 .. n. -/
def idt (n : Nat) : Array (Fin (n + 1)) := Array.ofFn (n := n + 1) fun i => i
theorem idt_size (n : Nat) : (idt n).size = n + 1 := by simp [idt]
theorem idt_get (n i : Nat) (h : i < n + 1) : (idt n)[i]! = ⟨i, h⟩ := by
  rw [getElem!_pos _ i (by rw [idt_size]; exact h)]
  simp [idt]
theorem idt_stab (n : Nat) (lt : Fin (n + 1) → Fin (n + 1) → Bool) : Stab lt Fin.val (idt n) := fun i j hij hj _ _ => by
  rw [idt_size] at hj
  rw [idt_get n i (by omega), idt_get n j hj]
  exact hij

/-- What the sort leaves: the order, sorted by rests, of two equals the lesser first; all that lay elsewhere is as it was. -/
def Ordered (A T : Int) (ws : List Int) (n blk : Nat) (w0 : World) (e : Ending) (w' : World) : Prop := e = .returned (.tuple #[]) ∧ ∃ d', SW (encR n) w0 blk 0 d' w' ∧ PermIn 0 (n + 1) (idt n) d' ∧ SortedIn (ltOf (cfR A T ws n)) 0 (n + 1) d' ∧ Stab (ltOf (cfR A T ws n)) Fin.val d'

set_option maxHeartbeats 1000000 in
theorem sort_any (A T : Int) (ws : List Int) (n cap wc q2 q3 q5 wb wo blk : Nat) (w : World) (hA : w.cell? ⟨q2, 0, none⟩ = some (.int .i64 A)) (hW : w.cell? ⟨q3, 0, none⟩ = some (.slice (some ⟨wb, wo, none⟩) (n + 1) wc)) (hT : w.cell? ⟨q5, 0, none⟩ = some (.int .i64 T))
    (hx : ∀ k, k < n + 1 → w.cell? ⟨wb, wo + k, none⟩ = some (.int .i64 (ws.getD k 0))) (hw : ∀ k, k < n + 1 → 0 ≤ ws.getD k 0 ∧ ws.getD k 0 ≤ 1000000000) (a0 : 0 ≤ A) (a1 : A ≤ 1000000000) (t0 : 1 ≤ T) (t1 : T ≤ 1000000000000) (hn : n + 1 ≤ 1000)
    (l2 : q2 < w.heap.size) (l3 : q3 < w.heap.size) (l5 : q5 < w.heap.size) (lw : wb < w.heap.size) (lb : blk < w.heap.size) (n2 : q2 ≠ blk) (n3 : q3 ≠ blk) (n5 : q5 ≠ blk) (nw : wb ≠ blk)
    (hH : Holds (encR n) w blk 0 (idt n)) :
    Calls Try.prog 49 #[.slice (some ⟨blk, 0, none⟩) ((n + 1 : Nat)) cap, .func (.func 50) #[] #[.pointer (some ⟨q2, 0, none⟩), .pointer (some ⟨q3, 0, none⟩), .pointer (some ⟨q5, 0, none⟩)]] w (Ordered A T ws n blk w) := by
  have hcmp : CmpLays1 Try.prog 50 #[.pointer (some ⟨q2, 0, none⟩), .pointer (some ⟨q3, 0, none⟩), .pointer (some ⟨q5, 0, none⟩)] (encR n) (cfR A T ws n) blk 0 (idt n).size w := by
    refine CmpReads.lays fun m os dk hs x y => ?_
    have := order_any A T ws x.val y.val (n + 1) wc q2 q3 q5 wb wo (sortWorld (encR n) w blk 0 m dk os)
      ((sw_other _ w blk 0 m dk os ⟨q2, 0, none⟩ n2 l2).trans hA) ((sw_other _ w blk 0 m dk os ⟨q3, 0, none⟩ n3 l3).trans hW) ((sw_other _ w blk 0 m dk os ⟨q5, 0, none⟩ n5 l5).trans hT)
      (fun k hk => (sw_other _ w blk 0 m dk os ⟨wb, wo + k, none⟩ nw lw).trans (hx k hk)) hw a0 a1 t0 t1 x.isLt y.isLt hn
    exact this
  have R : Row1 (encR n) w blk 0 (idt n) := ⟨one_encR n, hH, lb⟩
  have ST : Hid (∀ N, N = n + 1 → Calls Try.prog 55 #[.slice (some ⟨blk, 0, none⟩) N cap, .int .i64 N, .func (.func 50) #[] #[.pointer (some ⟨q2, 0, none⟩), .pointer (some ⟨q3, 0, none⟩), .pointer (some ⟨q5, 0, none⟩)]] w (Merged (encR n) (ltOf (cfR A T ws n)) Fin.val w blk 0 0 (n + 1) (idt n))) := fun N hN => by
    subst hN
    exact stable_any (encR n) (cfR A T ws n) Fin.val 50 #[.pointer (some ⟨q2, 0, none⟩), .pointer (some ⟨q3, 0, none⟩), .pointer (some ⟨q5, 0, none⟩)] blk 0 cap (n + 1) (idt n) w w enters_order hcmp (swo_cfR A T ws n) R (idt_size n).symm (by omega) (SW.start hH) (idt_stab n _)
  clear hcmp R hH hx hw hA hW hT
  obtain ⟨N, hN⟩ : ∃ N, N = n + 1 := ⟨_, rfl⟩
  rw [← hN]
  have HNN := Lib.hid hN
  have hN2 : N ≤ 1000 := by omega
  clear hN
  go_enter Try.func49, Try.ntmps49
  go_wp2_with fail
  refine (ST.out N HNN.out).mono ?_
  rintro e w1 ⟨rfl, d', h1, h2, h3, h4⟩
  have K : Hid (Ordered A T ws n blk w (.returned (.tuple #[])) w1) := ⟨rfl, d', h1, h2, h3, h4⟩
  clear h1 h2 h3 h4
  go_wp2_with fail
  go_end0
  exact K.out
end Go.Proofs.Ytenaeehefamdmaa.Sorts
