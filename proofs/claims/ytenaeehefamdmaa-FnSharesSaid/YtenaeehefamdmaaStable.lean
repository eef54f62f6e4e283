/-
  Contract of the library's stable sort of a row that a sort owns.
  Conditions: as the contract says.
-/
import Derived.Test.YtenaeehefamdmaaSymMerge2
namespace Go.Proofs.Ytenaeehefamdmaa.Sorts
open Go.Shelf Go.RowKit Go.Lib Go.Sort SortPlain
set_option linter.unusedVariables false
variable {α : Type} [Inhabited α]

/-- Blocks of s places, each sorted. -/
def BS (lt : α → α → Bool) (s n : Nat) (d : Array α) : Prop := ∀ x, s ∣ x → SortedIn lt x (min (x + s) n) d
/-- Blocks of s places sorted ahead of a. -/
def BA (lt : α → α → Bool) (s n a : Nat) (d : Array α) : Prop := ∀ x, s ∣ x → x < a → SortedIn lt x (min (x + s) n) d
/-- Blocks of s places sorted from a on. -/
def BZ (lt : α → α → Bool) (s n a : Nat) (d : Array α) : Prop := ∀ x, s ∣ x → a ≤ x → SortedIn lt x (min (x + s) n) d
theorem dvd_same {s a x : Nat} (ha : s ∣ a) (hx : s ∣ x) (h1 : a ≤ x) (h2 : x < a + s) : x = a := by
  have := Nat.eq_zero_of_dvd_of_lt (Nat.dvd_sub hx ha) (by omega)
  omega
theorem dvd_next {s a x : Nat} (ha : s ∣ a) (hx : s ∣ x) (h1 : x < a) : x + s ≤ a := by
  rcases Nat.lt_or_ge a (x + s) with h | h
  · have := dvd_same hx ha (by omega) h; omega
  · exact h
theorem ba_zero (lt : α → α → Bool) (s n : Nat) (d : Array α) : BA lt s n 0 d := fun x _ h => by omega
/-- Outside of what has been turned all is as it was. -/
theorem sorted_out {lt : α → α → Bool} {a b lo hi : Nat} {d d' : Array α} (h : PermIn a b d d') (s : SortedIn lt lo hi d) (c : hi ≤ a ∨ b ≤ lo) : SortedIn lt lo hi d' := fun i j i1 ij j1 => by
  rw [h.2.1 i (by omega), h.2.1 j (by omega)]; exact s i j i1 ij j1
theorem ba_step {lt : α → α → Bool} {s n a b : Nat} {d d' : Array α} (h : BA lt s n a d) (ha : s ∣ a) (hb : b = a + s) (hbn : b ≤ n) (hp : PermIn a b d d') (hs : SortedIn lt a b d') : BA lt s n b d' := fun x hx hlt => by
  by_cases c : x < a
  · exact sorted_out hp (h x hx c) (.inl (by have := dvd_next ha hx c; omega))
  · obtain rfl := dvd_same ha hx (by omega) (by omega)
    rw [show min (x + s) n = b by omega]; exact hs
/-- The last block. -/
theorem ba_last {lt : α → α → Bool} {s n a : Nat} {d d' : Array α} (h : BA lt s n a d) (ha : s ∣ a) (hn : n < a + s) (hp : PermIn a n d d') (hs : SortedIn lt a n d') : BS lt s n d' := fun x hx => by
  by_cases c : x < a
  · exact sorted_out hp (h x hx c) (.inl (by have := dvd_next ha hx c; omega))
  · by_cases c2 : x < a + s
    · obtain rfl := dvd_same ha hx (by omega) c2
      rw [show min (x + s) n = n by omega]; exact hs
    · intro i j i1 ij j1; omega
theorem bz_step {lt : α → α → Bool} {s n a b : Nat} {d d' : Array α} (h : BZ lt s n a d) (hab : a ≤ b) (hp : PermIn a b d d') : BZ lt s n b d' := fun x hx hle => sorted_out hp (h x hx (by omega)) (.inr (by omega))
theorem bs_done {lt : α → α → Bool} {s n : Nat} {d : Array α} (h : BS lt s n d) (hs : n ≤ s) : SortedIn lt 0 n d := by
  have := h 0 (Nat.dvd_zero _)
  rw [show min (0 + s) n = n by omega] at this
  exact this

theorem insertion_any (enc : α → Value) (cf : α → α → Int) (ix : α → Nat) (g : Nat) (cb : Array Value) (blk off cap n : Nat) (d0 : Array α) (w0 : World)
    (eg : ∀ args w, (callFunc g args).run Try.prog w = .ok (.enter g args) w) (hcmp : CmpLays1 Try.prog g cb enc cf blk off d0.size w0) (hS : SWO (ltOf cf)) (R : Row1 enc w0 blk off d0) (hn : n = d0.size) (hsz : d0.size < 4611686018427387904)
    (a b : Nat) (d : Array α) (w : World) (hab : a ≤ b) (hb : b ≤ n) (hd : d.size = n) (S : SW enc w0 blk off d w) (st : Stab (ltOf cf) ix d) :
    Calls Try.prog 57 #[.slice (some ⟨blk, off, none⟩) n cap, .int .i64 a, .int .i64 b, .func (.func g) #[] cb] w (Merged enc (ltOf cf) ix w0 blk off a b d) := by
  subst hd
  refine (Any.insertionSortCmpFunc_s lays20 enc cf g cb blk off cap a b d0 d w0 w eg hcmp R hn.symm S hab hb (by omega)).mono ?_
  rintro e w' ⟨rfl, hs⟩
  obtain ⟨p, q⟩ := insertionSort_holds hS d a b hab hb
  exact ⟨rfl, _, hs, p, q, stab_insertion hb st⟩

set_option maxHeartbeats 16000000 in
set_option maxRecDepth 1000000 in
theorem stable_any (enc : α → Value) (cf : α → α → Int) (ix : α → Nat) (g : Nat) (cb : Array Value) (blk off cap n : Nat) (d0 : Array α) (w0 w : World)
    (eg : ∀ args w, (callFunc g args).run Try.prog w = .ok (.enter g args) w) (hcmp : CmpLays1 Try.prog g cb enc cf blk off d0.size w0) (hS : SWO (ltOf cf)) (R : Row1 enc w0 blk off d0) (hn : n = d0.size) (hsz : n ≤ 100000) (S : SW enc w0 blk off d0 w) (st : Stab (ltOf cf) ix d0) :
    Calls Try.prog 55 #[.slice (some ⟨blk, off, none⟩) n cap, .int .i64 n, .func (.func g) #[] cb] w (Merged enc (ltOf cf) ix w0 blk off 0 n d0) := by
  have INS := Lib.hid (fun a b d w hab hb hd S st => insertion_any enc cf ix g cb blk off cap n d0 w0 eg hcmp hS R hn (by omega) a b d w hab hb hd S st)
  have MRG := Lib.hid (fun a m b d w h1 h2 h3 h4 S s1 s2 st => symMerge_any enc cf ix g cb blk off cap n d0 w0 eg hcmp hS R hn (by omega) (b - a) a m b d w (Nat.le_refl _) h1 h2 h3 h4 S s1 s2 st)
  have HN := Lib.hid hn
  have S0 : Aside (SW enc w0 blk off d0 w) := S
  have HST := Lib.hid st
  clear S st hcmp eg R hS hn
  go_enter Try.func55, Try.ntmps55
  go_wp2_with fail
  go_loopg [7, 8] (n + 1) (fun g1 va vb wr => ∃ (a b : Nat) (dk : Array α), va = .int .i64 a ∧ vb = .int .i64 b ∧ b ≤ a + 20 ∧ a + 20 ≤ b ∧ a ≤ n ∧ n - a ≤ g1 ∧ Aside (20 ∣ a) ∧ Aside (dk.size = n) ∧ Aside (SW enc w0 blk off dk wr) ∧ Aside (PermIn 0 n d0 dk) ∧ Aside (Stab (ltOf cf) ix dk) ∧ Aside (BA (ltOf cf) 20 n a dk))
  case atStart => exact ⟨0, 20, d0, by go_num, by go_num, by omega, by omega, by omega, by omega, Nat.dvd_zero _, HN.out.symm, S0, permIn_refl _ _ _, HST.out, ba_zero _ _ _ _⟩
  case round =>
    clear S0
    obtain ⟨a, b, dk, rfl, rfl, k1, k2, k3, hg1, HDV, HZ, S1, HP, ST, HBA⟩ := hrel
    by_cases hbn : b ≤ n
    · have hbz : (b : Int) ≤ (n : Int) := by omega
      go_wp2_with fail
      refine (INS.out a b dk wr (by omega) hbn HZ.out S1.out ST.out).mono ?_
      rintro e w1 ⟨rfl, d1, hs1, hp1, hq1, ht1⟩
      have S1' : Aside (SW enc w0 blk off d1 w1) := hs1
      have Z1 : Aside (d1.size = n) := hp1.1.trans HZ.out
      have P1 : Aside (PermIn 0 n d0 d1) := permIn_trans _ _ _ _ _ HP.out (permIn_mono _ _ _ _ _ _ (Nat.zero_le _) hbn (by rw [HZ.out]; exact Nat.le_refl _) hp1)
      have T1 : Aside (Stab (ltOf cf) ix d1) := ht1
      have B1 : Aside (BA (ltOf cf) 20 n b d1) := ba_step HBA.out HDV.out (by omega) hbn hp1 hq1
      have D1 : Aside (20 ∣ b) := by rw [show b = a + 20 by omega]; exact Nat.dvd_add HDV.out (Nat.dvd_refl _)
      clear hs1 hp1 hq1 ht1 S1 HZ HP ST HBA HDV
      go_wp2
      go_roundg (n - b)
      case measure => omega
      case rel => exact ⟨b, b + 20, d1, rfl, by go_num, by omega, by omega, hbn, Nat.le_refl _, D1, Z1, S1', P1, T1, B1⟩
    · have hbz : ¬ (b : Int) ≤ (n : Int) := by omega
      go_wp2_with fail
      refine (INS.out a n dk wr k3 (Nat.le_refl _) HZ.out S1.out ST.out).mono ?_
      rintro e w1 ⟨rfl, d1, hs1, hp1, hq1, ht1⟩
      have S1' : Aside (SW enc w0 blk off d1 w1) := hs1
      have Z1 : Aside (d1.size = n) := hp1.1.trans HZ.out
      have P1 : Aside (PermIn 0 n d0 d1) := permIn_trans _ _ _ _ _ HP.out (permIn_mono _ _ _ _ _ _ (Nat.zero_le _) (Nat.le_refl _) (by rw [HZ.out]; exact Nat.le_refl _) hp1)
      have T1 : Aside (Stab (ltOf cf) ix d1) := ht1
      have B1 : Aside (BS (ltOf cf) 20 n d1) := ba_last HBA.out HDV.out (by omega) hp1 hq1
      clear hs1 hp1 hq1 ht1 S1 HZ HP ST HBA HDV hg1
      go_wp2_with fail
      go_loopg [6] (n + 1) (fun g2 vs wr => ∃ (s : Nat) (dk : Array α), vs = .int .i64 s ∧ 20 ≤ s ∧ s ≤ 2 * n + 20 ∧ n - s ≤ g2 ∧ Aside (dk.size = n) ∧ Aside (SW enc w0 blk off dk wr) ∧ Aside (PermIn 0 n d0 dk) ∧ Aside (Stab (ltOf cf) ix dk) ∧ Aside (BS (ltOf cf) s n dk))
      case atStart => exact ⟨20, d1, by go_num, Nat.le_refl _, by omega, by omega, Z1, S1', P1, T1, B1⟩
      case round =>
        clear S1' Z1 P1 T1 B1
        obtain ⟨s, dk, rfl, j1, j2, hg2, HZ, S1, HP, ST, HBS⟩ := hrel
        by_cases hsn : s < n
        · have hsz2 : (s : Int) < (n : Int) := by omega
          have BZ0 : Aside (BZ (ltOf cf) s n 0 dk) := fun x hx _ => HBS.out x hx
          clear HBS
          go_wp2_with fail
          go_loopg [7, 8] (n + 1) (fun g3 va vb wr => ∃ (a b : Nat) (dl : Array α), va = .int .i64 a ∧ vb = .int .i64 b ∧ b ≤ a + 2 * s ∧ a + 2 * s ≤ b ∧ a ≤ n ∧ n - a ≤ g3 ∧ Aside (2 * s ∣ a) ∧ Aside (dl.size = n) ∧ Aside (SW enc w0 blk off dl wr) ∧ Aside (PermIn 0 n d0 dl) ∧ Aside (Stab (ltOf cf) ix dl) ∧ Aside (BA (ltOf cf) (2 * s) n a dl) ∧ Aside (BZ (ltOf cf) s n a dl))
          case atStart => exact ⟨0, 2 * s, dk, by go_num, by go_num, by omega, by omega, by omega, by omega, Nat.dvd_zero _, HZ, S1, HP, ST, ba_zero _ _ _ _, BZ0⟩
          case round =>
            clear S1 HZ HP ST BZ0
            obtain ⟨a, b, dl, rfl, rfl, k1, k2, k3, hg3, HDV, HZ, S1, HP, ST, HBA, HBZ⟩ := hrel
            obtain ⟨m, hm⟩ : ∃ m, m = a + s := ⟨_, rfl⟩
            have em : (a : Int) + (s : Int) = (m : Int) := by omega
            have hmd : m ≤ 4 * n + 40 := by omega
            have DA : Aside (s ∣ a) := Nat.dvd_trans (Nat.dvd_mul_left s 2) HDV.out
            have DM : Aside (s ∣ m) := by rw [hm]; exact Nat.dvd_add DA.out (Nat.dvd_refl _)
            have m1 : a + s ≤ m := by omega
            have m2 : m ≤ a + s := by omega
            clear hm
            by_cases hbn : b ≤ n
            · have hbz : (b : Int) ≤ (n : Int) := by omega
              have A1 : Aside (SortedIn (ltOf cf) a m dl) := by have := HBZ.out a DA.out (Nat.le_refl _); rw [show min (a + s) n = m by omega] at this; exact this
              have A2 : Aside (SortedIn (ltOf cf) m b dl) := by have := HBZ.out m DM.out (by omega); rw [show min (m + s) n = b by omega] at this; exact this
              go_wp2_with fail
              refine (MRG.out a m b dl wr (by omega) (by omega) hbn HZ.out S1.out A1.out A2.out ST.out).mono ?_
              rintro e w1 ⟨rfl, d1, hs1, hp1, hq1, ht1⟩
              have S1' : Aside (SW enc w0 blk off d1 w1) := hs1
              have Z1 : Aside (d1.size = n) := hp1.1.trans HZ.out
              have P1 : Aside (PermIn 0 n d0 d1) := permIn_trans _ _ _ _ _ HP.out (permIn_mono _ _ _ _ _ _ (Nat.zero_le _) hbn (by rw [HZ.out]; exact Nat.le_refl _) hp1)
              have T1 : Aside (Stab (ltOf cf) ix d1) := ht1
              have B1 : Aside (BA (ltOf cf) (2 * s) n b d1) := ba_step HBA.out HDV.out (by omega) hbn hp1 hq1
              have B2 : Aside (BZ (ltOf cf) s n b d1) := bz_step HBZ.out (by omega) hp1
              have D1 : Aside (2 * s ∣ b) := by rw [show b = a + 2 * s by omega]; exact Nat.dvd_add HDV.out (Nat.dvd_refl _)
              clear hs1 hp1 hq1 ht1 S1 HZ HP ST HBA HBZ HDV DA DM A1 A2 em
              go_wp2
              go_roundg (n - b)
              case measure => omega
              case rel => exact ⟨b, b + 2 * s, d1, rfl, by go_num, by omega, by omega, hbn, Nat.le_refl _, D1, Z1, S1', P1, T1, B1, B2⟩
            · have hbz : ¬ (b : Int) ≤ (n : Int) := by omega
              by_cases hmn : m < n
              · have hmz : (m : Int) < (n : Int) := by omega
                have A1 : Aside (SortedIn (ltOf cf) a m dl) := by have := HBZ.out a DA.out (Nat.le_refl _); rw [show min (a + s) n = m by omega] at this; exact this
                have A2 : Aside (SortedIn (ltOf cf) m n dl) := by have := HBZ.out m DM.out (by omega); rw [show min (m + s) n = n by omega] at this; exact this
                go_wp2_with fail
                refine (MRG.out a m n dl wr (by omega) hmn (Nat.le_refl _) HZ.out S1.out A1.out A2.out ST.out).mono ?_
                rintro e w1 ⟨rfl, d1, hs1, hp1, hq1, ht1⟩
                have S1' : Aside (SW enc w0 blk off d1 w1) := hs1
                have Z1 : Aside (d1.size = n) := hp1.1.trans HZ.out
                have P1 : Aside (PermIn 0 n d0 d1) := permIn_trans _ _ _ _ _ HP.out (permIn_mono _ _ _ _ _ _ (Nat.zero_le _) (Nat.le_refl _) (by rw [HZ.out]; exact Nat.le_refl _) hp1)
                have T1 : Aside (Stab (ltOf cf) ix d1) := ht1
                have B1 : Aside (BS (ltOf cf) (2 * s) n d1) := ba_last HBA.out HDV.out (by omega) hp1 hq1
                clear hs1 hp1 hq1 ht1 S1 HZ HP ST HBA HBZ HDV DA DM A1 A2 em
                go_wp2
                go_roundg (n - 2 * s)
                case measure => omega
                case rel => exact ⟨2 * s, d1, by go_num, by omega, by omega, Nat.le_refl _, Z1, S1', P1, T1, B1⟩
              · have hmz : ¬ (m : Int) < (n : Int) := by omega
                have A1 : SortedIn (ltOf cf) a n dl := by have := HBZ.out a DA.out (Nat.le_refl _); rw [show min (a + s) n = n by omega] at this; exact this
                have B1 : Aside (BS (ltOf cf) (2 * s) n dl) := ba_last HBA.out HDV.out (by omega) (permIn_refl _ _ _) A1
                clear HBA HBZ HDV DA DM A1
                go_wp2
                go_roundg (n - 2 * s)
                case measure => omega
                case rel => exact ⟨2 * s, dl, by go_num, by omega, by omega, Nat.le_refl _, HZ, S1, HP, ST, B1⟩
        · have hsz2 : ¬ (s : Int) < (n : Int) := by omega
          go_wp2
          go_end0
          exact ⟨rfl, dk, S1.out, HP.out, bs_done HBS.out (by omega), ST.out⟩
end Go.Proofs.Ytenaeehefamdmaa.Sorts
