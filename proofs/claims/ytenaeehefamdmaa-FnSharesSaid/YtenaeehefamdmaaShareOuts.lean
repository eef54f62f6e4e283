/-
  Contracts of ShareOut of both packages.
  Conditions: the slice reads as a list (Mem.Rd).
-/
import Derived.Test.YtenaeehefamdmaaShareImpl2
namespace Go.Proofs.Ytenaeehefamdmaa.Shares
open Go.RowKit Mem Owns Sorts Go.Sort
set_option linter.unusedVariables false

def okS (A : Int) (ws : List Int) : Prop := 0 ≤ A ∧ A ≤ 1000000000 ∧ within 0 1000000000 ws = true ∧ ws.length ≤ 130
/-- What the reference answers: the shares by whatever order of the rests. -/
def ShAll (A : Int) (ws os : List Int) (c : Int) : Prop :=
  (okS A ws ∧ 1 ≤ ws.sum ∧ c = 0 ∧ ∀ n d, ws.length = n + 1 → Valid A ws.sum ws n d → os = outK (qL A ws.sum ws) d (A - (qL A ws.sum ws).sum).toNat) ∨ (¬ okS A ws ∧ os = [] ∧ c = 2) ∨ (okS A ws ∧ ws.sum = 0 ∧ os = [] ∧ c = 5)
/-- What the program answers: the shares by an order of the rests. -/
def ShOne (A : Int) (ws os : List Int) (c : Int) : Prop :=
  (okS A ws ∧ 1 ≤ ws.sum ∧ c = 0 ∧ ∃ n d, ws.length = n + 1 ∧ Valid A ws.sum ws n d ∧ os = outK (qL A ws.sum ws) d (A - (qL A ws.sum ws).sum).toNat) ∨ (¬ okS A ws ∧ os = [] ∧ c = 2) ∨ (okS A ws ∧ ws.sum = 0 ∧ os = [] ∧ c = 5)
theorem one_all {A : Int} {ws os os' : List Int} {c c' : Int} (h : ShAll A ws os c) (g : ShOne A ws os' c') : os' = os ∧ c' = c := by
  rcases h with ⟨h1, h2, rfl, h3⟩ | ⟨h1, rfl, rfl⟩ | ⟨h1, h2, rfl, rfl⟩
  · rcases g with ⟨g1, g2, rfl, n, d, g3, g4, rfl⟩ | ⟨g1, _⟩ | ⟨_, g1, _⟩
    · exact ⟨(h3 n d g3 g4).symm, rfl⟩
    · exact absurd h1 g1
    · omega
  · rcases g with ⟨g1, _⟩ | ⟨_, rfl, rfl⟩ | ⟨g1, _⟩
    · exact absurd g1 h1
    · exact ⟨rfl, rfl⟩
    · exact absurd g1 h1
  · rcases g with ⟨_, g1, _⟩ | ⟨g1, _⟩ | ⟨_, _, rfl, rfl⟩
    · omega
    · exact absurd h1 g1
    · exact ⟨rfl, rfl⟩
theorem one_len {A : Int} {ws os : List Int} {c : Int} (g : ShOne A ws os c) : os.length ≤ ws.length := by
  rcases g with ⟨_, _, _, n, d, _, _, rfl⟩ | ⟨_, rfl, _⟩ | ⟨_, _, rfl, _⟩
  · rw [outK_len, qL_len]; exact Nat.le_refl _
  · simp
  · simp
theorem sum_in {ws : List Int} (hw : within 0 1000000000 ws = true) (hl : ws.length ≤ 130) : 0 ≤ ws.sum ∧ ws.sum ≤ 130000000000 := by
  have h1 := (mem_sum (ws := ws) (fun x hx => by
    obtain ⟨i, hi, rfl⟩ := List.getElem_of_mem hx
    have := within_get hw i hi
    rw [getD_lt hi] at this
    exact this.1)).1
  have h2 := sum_bd 1000000000 (by omega) ws (within_mono hw (by omega) (by omega)) ws.length (Nat.le_refl _)
  rw [List.take_length] at h2
  omega
theorem bad_parts {A : Int} {ws : List Int} (h : ¬ okS A ws) : (A < 0 ∨ 1000000000 < A) ∨ (0 ≤ A ∧ A ≤ 1000000000 ∧ 130 < ws.length) ∨ (0 ≤ A ∧ A ≤ 1000000000 ∧ ws.length ≤ 130 ∧ within 0 1000000000 ws = false) := by
  by_cases h1 : 0 ≤ A ∧ A ≤ 1000000000
  · by_cases h2 : ws.length ≤ 130
    · cases hw : within 0 1000000000 ws with
      | false => exact .inr (.inr ⟨h1.1, h1.2, h2, rfl⟩)
      | true => exact absurd ⟨h1.1, h1.2, hw, h2⟩ h
    · exact .inr (.inl ⟨h1.1, h1.2, by omega⟩)
  · exact .inl (by omega)

def SpecEnd (A : Int) (ws : List Int) (w : World) (e : Ending) (w' : World) : Prop := ∃ u os c, e = .returned (.tuple #[u, .int .i64 c]) ∧ ShAll A ws os c ∧ Sl w' w.heap.size u os ∧ Below w.heap.size w w'
def ImplEnd (A : Int) (ws : List Int) (w : World) (e : Ending) (w' : World) : Prop := ∃ u os c, e = .returned (.tuple #[u, .int .i64 c]) ∧ ShOne A ws os c ∧ Sl w' w.heap.size u os ∧ Below w.heap.size w w'
theorem pred_len {ws : List Int} (h : 1 ≤ ws.sum) : ∃ n, ws.length = n + 1 := by
  cases ws with
  | nil => simp at h
  | cons x l => exact ⟨l.length, rfl⟩

set_option maxHeartbeats 1000000 in
theorem specShareOut_any (A : Int) (v : Value) (ws : List Int) (w : World) (h : Rd w v ws) :
    Calls Try.prog 16 #[.int .i64 A, v] w (SpecEnd A ws w) := by
  obtain ⟨a, c, rfl, hn⟩ := rd_shape h
  have HR := Lib.hid h
  clear h
  by_cases hk : okS A ws
  · have HK := Lib.hid hk
    obtain ⟨a0, a1, hw, hl⟩ := hk
    have HW := Lib.hid hw
    obtain ⟨s0, s1⟩ := sum_in hw hl
    have SM := Lib.hid (fun w h => Lists.l01Sum_any (.slice a ws.length c) ws w h 1000000000 (by omega) (within_mono hw (by omega) (by omega)) (by omega))
    by_cases hz : ws.sum = 0
    · have V : Hid (ShAll A ws [] 5) := .inr (.inr ⟨HK.out, hz, rfl, rfl⟩)
      clear hw
      generalize ws.sum = T at SM hz s0 s1
      subst hz
      go_enter Try.func16, Try.ntmps16
      go_wp2_with (first
      | (go_at_call 25; refine (Base.l01In_yes _ _ _ _ (by omega) (by omega)).mono ?_; rintro e w' ⟨rfl, rfl⟩)
      | (go_at_call 25; refine (Base.l01In_no _ _ _ _ (by omega)).mono ?_; rintro e w' ⟨rfl, rfl⟩)
      | (go_at_call 33; refine (Base.inRange_yes _ _ _ _ (by omega) (by omega)).mono ?_; rintro e w' ⟨rfl, rfl⟩)
      | (go_at_call 33; refine (Base.inRange_no _ _ _ _ (by omega)).mono ?_; rintro e w' ⟨rfl, rfl⟩)
     )
      refine (Lists.l01Within_yes _ ws 130 0 1000000000 _ HR.out HW.out (by omega)).mono ?_; rintro e w1 ⟨rfl, hb1⟩
      have HB1 := Lib.hid hb1
      clear hb1
      go_wp2_with fail
      refine (SM.out _ (HR.out.below HB1.out)).mono ?_; rintro e w2 ⟨rfl, hb2⟩
      have HB2 := Lib.hid (bl HB1.out hb2)
      clear hb2
      go_wp2
      go_ret2
      exact ⟨_, _, _, rfl, V.out, .inl ⟨rfl, rfl⟩, HB2.out⟩
    · have hz1 : 1 ≤ ws.sum := by omega
      obtain ⟨n, hn1⟩ := pred_len hz1
      have SH := Lib.hid (fun w h => l01Share_any A (.slice a ws.length c) ws n w h hn1 (by omega) hw a0 a1 hz1 (by omega))
      have V : Hid (∀ os, (∀ d, Valid A ws.sum ws n d → os = outK (qL A ws.sum ws) d (A - (qL A ws.sum ws).sum).toNat) → ShAll A ws os 0) := fun os ho => .inl ⟨HK.out, hz1, rfl, fun m d hm hd => by
        obtain rfl : m = n := by omega
        exact ho d hd⟩
      have hne : ¬ ws.sum = 0 := hz
      have hlz : (ws.length : Int) ≤ 130 := by omega
      clear hw hz
      clear hn1
      go_enter Try.func16, Try.ntmps16
      go_wp2_with (first
      | (go_at_call 25; refine (Base.l01In_yes _ _ _ _ (by omega) (by omega)).mono ?_; rintro e w' ⟨rfl, rfl⟩)
      | (go_at_call 25; refine (Base.l01In_no _ _ _ _ (by omega)).mono ?_; rintro e w' ⟨rfl, rfl⟩)
      | (go_at_call 33; refine (Base.inRange_yes _ _ _ _ (by omega) (by omega)).mono ?_; rintro e w' ⟨rfl, rfl⟩)
      | (go_at_call 33; refine (Base.inRange_no _ _ _ _ (by omega)).mono ?_; rintro e w' ⟨rfl, rfl⟩)
     )
      refine (Lists.l01Within_yes _ ws 130 0 1000000000 _ HR.out HW.out (by omega)).mono ?_; rintro e w1 ⟨rfl, hb1⟩
      have HB1 := Lib.hid hb1
      clear hb1
      go_wp2_with fail
      refine (SM.out _ (HR.out.below HB1.out)).mono ?_; rintro e w2 ⟨rfl, hb2⟩
      have HB2 := Lib.hid (bl HB1.out hb2)
      clear hb2
      go_wp2_with fail
      refine (SH.out _ (HR.out.below HB2.out)).mono ?_; rintro e w3 ⟨u, os, rfl, hs, hb3, ho⟩
      have V2 := Lib.hid (V.out os ho)
      have HS := Lib.hid (sl_mono (B' := w.heap.size) (HB2.out.size) hs)
      have HB3 := Lib.hid (bl HB2.out hb3)
      obtain ⟨p, q, rfl⟩ := sl_shape hs
      clear hs hb3 ho V
      go_wp2
      go_ret2
      exact ⟨_, _, _, rfl, V2.out, HS.out, HB3.out⟩
  · have V : Hid (ShAll A ws [] 2) := .inr (.inl ⟨hk, rfl, rfl⟩)
    rcases bad_parts hk with h1 | ⟨h1, h2, h3⟩ | ⟨h1, h2, h3, h4⟩
    · clear hk
      go_enter Try.func16, Try.ntmps16
      go_wp2_with (first
      | (go_at_call 25; refine (Base.l01In_yes _ _ _ _ (by omega) (by omega)).mono ?_; rintro e w' ⟨rfl, rfl⟩)
      | (go_at_call 25; refine (Base.l01In_no _ _ _ _ (by omega)).mono ?_; rintro e w' ⟨rfl, rfl⟩)
      | (go_at_call 33; refine (Base.inRange_yes _ _ _ _ (by omega) (by omega)).mono ?_; rintro e w' ⟨rfl, rfl⟩)
      | (go_at_call 33; refine (Base.inRange_no _ _ _ _ (by omega)).mono ?_; rintro e w' ⟨rfl, rfl⟩)
     )
      go_ret2
      exact ⟨_, _, _, rfl, V.out, .inl ⟨rfl, rfl⟩, Below.refl _ _⟩
    · clear hk
      go_enter Try.func16, Try.ntmps16
      go_wp2_with (first
      | (go_at_call 25; refine (Base.l01In_yes _ _ _ _ (by omega) (by omega)).mono ?_; rintro e w' ⟨rfl, rfl⟩)
      | (go_at_call 25; refine (Base.l01In_no _ _ _ _ (by omega)).mono ?_; rintro e w' ⟨rfl, rfl⟩)
      | (go_at_call 33; refine (Base.inRange_yes _ _ _ _ (by omega) (by omega)).mono ?_; rintro e w' ⟨rfl, rfl⟩)
      | (go_at_call 33; refine (Base.inRange_no _ _ _ _ (by omega)).mono ?_; rintro e w' ⟨rfl, rfl⟩)
     )
      refine (Lists.l01Within_no _ ws _ _ _ _ HR.out (.inr (by omega))).mono ?_; rintro e w1 ⟨rfl, hb1⟩
      have HB1 := Lib.hid hb1
      clear hb1
      go_wp2
      go_ret2
      exact ⟨_, _, _, rfl, V.out, .inl ⟨rfl, rfl⟩, HB1.out⟩
    · clear hk
      have H4 := Lib.hid h4
      clear h4
      go_enter Try.func16, Try.ntmps16
      go_wp2_with (first
      | (go_at_call 25; refine (Base.l01In_yes _ _ _ _ (by omega) (by omega)).mono ?_; rintro e w' ⟨rfl, rfl⟩)
      | (go_at_call 25; refine (Base.l01In_no _ _ _ _ (by omega)).mono ?_; rintro e w' ⟨rfl, rfl⟩)
      | (go_at_call 33; refine (Base.inRange_yes _ _ _ _ (by omega) (by omega)).mono ?_; rintro e w' ⟨rfl, rfl⟩)
      | (go_at_call 33; refine (Base.inRange_no _ _ _ _ (by omega)).mono ?_; rintro e w' ⟨rfl, rfl⟩)
     )
      refine (Lists.l01Within_no _ ws _ _ _ _ HR.out (.inl H4.out)).mono ?_; rintro e w1 ⟨rfl, hb1⟩
      have HB1 := Lib.hid hb1
      clear hb1
      go_wp2
      go_ret2
      exact ⟨_, _, _, rfl, V.out, .inl ⟨rfl, rfl⟩, HB1.out⟩

set_option maxHeartbeats 1000000 in
theorem implShareOut_any (A : Int) (v : Value) (ws : List Int) (w : World) (h : Rd w v ws) :
    Calls Try.prog 18 #[.int .i64 A, v] w (ImplEnd A ws w) := by
  obtain ⟨a, c, rfl, hn⟩ := rd_shape h
  have HR := Lib.hid h
  clear h
  by_cases hk : okS A ws
  · have HK := Lib.hid hk
    obtain ⟨a0, a1, hw, hl⟩ := hk
    have HW := Lib.hid hw
    obtain ⟨s0, s1⟩ := sum_in hw hl
    have SM := Lib.hid (fun w h => Lists.total_any (.slice a ws.length c) ws w h 1000000000 (by omega) (within_mono hw (by omega) (by omega)) (by omega))
    by_cases hz : ws.sum = 0
    · have V : Hid (ShOne A ws [] 5) := .inr (.inr ⟨HK.out, hz, rfl, rfl⟩)
      clear hw
      generalize ws.sum = T at SM hz s0 s1
      subst hz
      go_enter Try.func18, Try.ntmps18
      go_wp2_with (first
      | (go_at_call 25; refine (Base.l01In_yes _ _ _ _ (by omega) (by omega)).mono ?_; rintro e w' ⟨rfl, rfl⟩)
      | (go_at_call 25; refine (Base.l01In_no _ _ _ _ (by omega)).mono ?_; rintro e w' ⟨rfl, rfl⟩)
      | (go_at_call 33; refine (Base.inRange_yes _ _ _ _ (by omega) (by omega)).mono ?_; rintro e w' ⟨rfl, rfl⟩)
      | (go_at_call 33; refine (Base.inRange_no _ _ _ _ (by omega)).mono ?_; rintro e w' ⟨rfl, rfl⟩)
     )
      refine (Lists.allIn_any _ ws _ _ _ HR.out).mono ?_; rintro e w1 ⟨rfl, hb1⟩; rw [HW.out]
      have HB1 := Lib.hid hb1
      clear hb1
      go_wp2_with fail
      refine (SM.out _ (HR.out.below HB1.out)).mono ?_; rintro e w2 ⟨rfl, hb2⟩
      have HB2 := Lib.hid (bl HB1.out hb2)
      clear hb2
      go_wp2
      go_ret2
      exact ⟨_, _, _, rfl, V.out, .inl ⟨rfl, rfl⟩, HB2.out⟩
    · have hz1 : 1 ≤ ws.sum := by omega
      obtain ⟨n, hn1⟩ := pred_len hz1
      have SH := Lib.hid (fun w h => shareOut_any A (.slice a ws.length c) ws n w h hn1 (by omega) hw a0 a1 hz1 (by omega))
      have V : Hid (∀ d, Valid A ws.sum ws n d → ShOne A ws (outK (qL A ws.sum ws) d (A - (qL A ws.sum ws).sum).toNat) 0) := fun d hd => .inl ⟨HK.out, hz1, rfl, n, d, hn1, hd, rfl⟩
      have hne : ¬ ws.sum = 0 := hz
      clear hw hn1
      go_enter Try.func18, Try.ntmps18
      go_wp2_with (first
      | (go_at_call 25; refine (Base.l01In_yes _ _ _ _ (by omega) (by omega)).mono ?_; rintro e w' ⟨rfl, rfl⟩)
      | (go_at_call 25; refine (Base.l01In_no _ _ _ _ (by omega)).mono ?_; rintro e w' ⟨rfl, rfl⟩)
      | (go_at_call 33; refine (Base.inRange_yes _ _ _ _ (by omega) (by omega)).mono ?_; rintro e w' ⟨rfl, rfl⟩)
      | (go_at_call 33; refine (Base.inRange_no _ _ _ _ (by omega)).mono ?_; rintro e w' ⟨rfl, rfl⟩)
     )
      refine (Lists.allIn_any _ ws _ _ _ HR.out).mono ?_; rintro e w1 ⟨rfl, hb1⟩; rw [HW.out]
      have HB1 := Lib.hid hb1
      clear hb1
      go_wp2_with fail
      refine (SM.out _ (HR.out.below HB1.out)).mono ?_; rintro e w2 ⟨rfl, hb2⟩
      have HB2 := Lib.hid (bl HB1.out hb2)
      clear hb2
      go_wp2_with fail
      refine (SH.out _ (HR.out.below HB2.out)).mono ?_; rintro e w3 ⟨u, d, rfl, hd, hs, hb3⟩
      have V2 := Lib.hid (V.out d hd)
      generalize outK (qL A ws.sum ws) d (A - (qL A ws.sum ws).sum).toNat = os at *
      have HS := Lib.hid (sl_mono (B' := w.heap.size) (HB2.out.size) hs)
      have HB3 := Lib.hid (bl HB2.out hb3)
      obtain ⟨p, q, rfl⟩ := sl_shape hs
      clear hs hb3 hd V
      go_wp2
      go_ret2
      exact ⟨_, _, _, rfl, V2.out, HS.out, HB3.out⟩
  · have V : Hid (ShOne A ws [] 2) := .inr (.inl ⟨hk, rfl, rfl⟩)
    rcases bad_parts hk with h1 | ⟨h1, h2, h3⟩ | ⟨h1, h2, h3, h4⟩
    · clear hk
      go_enter Try.func18, Try.ntmps18
      go_wp2_with (first
      | (go_at_call 25; refine (Base.l01In_yes _ _ _ _ (by omega) (by omega)).mono ?_; rintro e w' ⟨rfl, rfl⟩)
      | (go_at_call 25; refine (Base.l01In_no _ _ _ _ (by omega)).mono ?_; rintro e w' ⟨rfl, rfl⟩)
      | (go_at_call 33; refine (Base.inRange_yes _ _ _ _ (by omega) (by omega)).mono ?_; rintro e w' ⟨rfl, rfl⟩)
      | (go_at_call 33; refine (Base.inRange_no _ _ _ _ (by omega)).mono ?_; rintro e w' ⟨rfl, rfl⟩)
     )
      go_ret2
      exact ⟨_, _, _, rfl, V.out, .inl ⟨rfl, rfl⟩, Below.refl _ _⟩
    · clear hk
      go_enter Try.func18, Try.ntmps18
      go_wp2_with (first
      | (go_at_call 25; refine (Base.l01In_yes _ _ _ _ (by omega) (by omega)).mono ?_; rintro e w' ⟨rfl, rfl⟩)
      | (go_at_call 25; refine (Base.l01In_no _ _ _ _ (by omega)).mono ?_; rintro e w' ⟨rfl, rfl⟩)
      | (go_at_call 33; refine (Base.inRange_yes _ _ _ _ (by omega) (by omega)).mono ?_; rintro e w' ⟨rfl, rfl⟩)
      | (go_at_call 33; refine (Base.inRange_no _ _ _ _ (by omega)).mono ?_; rintro e w' ⟨rfl, rfl⟩)
     )
      go_ret2
      exact ⟨_, _, _, rfl, V.out, .inl ⟨rfl, rfl⟩, Below.refl _ _⟩
    · clear hk
      have H4 := Lib.hid h4
      clear h4
      go_enter Try.func18, Try.ntmps18
      go_wp2_with (first
      | (go_at_call 25; refine (Base.l01In_yes _ _ _ _ (by omega) (by omega)).mono ?_; rintro e w' ⟨rfl, rfl⟩)
      | (go_at_call 25; refine (Base.l01In_no _ _ _ _ (by omega)).mono ?_; rintro e w' ⟨rfl, rfl⟩)
      | (go_at_call 33; refine (Base.inRange_yes _ _ _ _ (by omega) (by omega)).mono ?_; rintro e w' ⟨rfl, rfl⟩)
      | (go_at_call 33; refine (Base.inRange_no _ _ _ _ (by omega)).mono ?_; rintro e w' ⟨rfl, rfl⟩)
     )
      refine (Lists.allIn_any _ ws _ _ _ HR.out).mono ?_; rintro e w1 ⟨rfl, hb1⟩; rw [H4.out]
      have HB1 := Lib.hid hb1
      clear hb1
      go_wp2
      go_ret2
      exact ⟨_, _, _, rfl, V.out, .inl ⟨rfl, rfl⟩, HB1.out⟩
end Go.Proofs.Ytenaeehefamdmaa.Shares
