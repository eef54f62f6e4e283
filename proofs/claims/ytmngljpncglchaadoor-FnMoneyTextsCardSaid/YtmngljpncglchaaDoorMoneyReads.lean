/-
  Contracts of ReadMoney of both packages.
  Conditions: the library's table, its two errors and MaxLen read (Tab, DoorE, DoorM).
-/
import Derived.Test.YtmngljpncglchaaDoorDoors
import Derived.Test.YtmngljpncglchaaDoorReads
import Derived.Lib.Strings
namespace Go.Proofs.YtmngljpncglchaaDoor.MoneyReads
open Go.RowKit Mem Texts TextPlain ReadPlain Doors Reads
set_option linter.unusedVariables false

/-- The amount that a text tells, if it is the text of one. -/
def IsMny (l : List UInt8) (n : Int) : Prop := -1000000000000 ≤ n ∧ n ≤ 1000000000000 ∧ l = moneyT n
noncomputable def rmnB (l : List UInt8) : Bool := @decide (∃ n, IsMny l n) (Classical.propDecidable _)
noncomputable def rmnV (l : List UInt8) : Int := @dite _ (∃ n, IsMny l n) (Classical.propDecidable _) (fun h => h.choose) (fun _ => 0)
def mnyX (n : Int) : List UInt8 := if -1000000000000 ≤ n ∧ n ≤ 1000000000000 then moneyT n else []
theorem moneyT_neg (m : Nat) (h : 0 < m) : moneyT (-(m : Int)) = 45 :: posT (m : Int) := by
  unfold moneyT; rw [if_pos (by omega), Int.neg_neg]; rfl
theorem moneyT_pos (m : Nat) : moneyT (m : Int) = posT (m : Int) := by unfold moneyT; rw [if_neg (by omega)]
theorem moneyT_cases (n : Int) : (∃ m : Nat, 0 < m ∧ n = -(m : Int) ∧ moneyT n = 45 :: posT (m : Int)) ∨ ∃ m : Nat, n = (m : Int) ∧ moneyT n = posT (m : Int) := by
  by_cases h : n < 0
  · obtain ⟨m, rfl⟩ : ∃ m : Nat, n = -(m : Int) := ⟨(-n).toNat, by omega⟩
    exact .inl ⟨m, by omega, rfl, moneyT_neg m (by omega)⟩
  · obtain ⟨m, rfl⟩ := Int.eq_ofNat_of_zero_le (show 0 ≤ n by omega)
    exact .inr ⟨m, rfl, moneyT_pos m⟩
theorem posT_ne45 (m : Nat) (r : List UInt8) : posT (m : Int) ≠ 45 :: r := fun h => by
  obtain ⟨c, q, e, hc⟩ := posT_head m
  rw [e] at h
  injection h with h1 _
  subst h1
  cases hc
/-- What the text of an amount tells: its digits, its sign. -/
theorem mny_dig {l : List UInt8} {n : Int} (h : IsMny l n) : strip (digF l) = Lib.itoa (n.natAbs : Int) ∧ (l.head? = some 45 ↔ n < 0) ∧ l ≠ [] := by
  obtain ⟨h0, h1, rfl⟩ := h
  obtain ⟨a, b, c⟩ := monD_ok n.natAbs
  refine ⟨by rw [money_dig, strip_dec _ a c, b, Lib.itoa_nonneg], ?_, ?_⟩
  · rcases moneyT_cases n with ⟨m, hm, rfl, e⟩ | ⟨m, rfl, e⟩
    · rw [e]; simp; omega
    · rw [e]
      obtain ⟨c, q, e2, hc⟩ := posT_head m
      rw [e2]
      constructor
      · intro g; simp at g; subst g; cases hc
      · intro g; omega
  · rcases moneyT_cases n with ⟨m, hm, rfl, e⟩ | ⟨m, rfl, e⟩
    · rw [e]; simp
    · obtain ⟨c, q, e2, hc⟩ := posT_head m
      rw [e, e2]; simp
theorem mny_inj {l : List UInt8} {a b : Int} (h : IsMny l a) (g : IsMny l b) : a = b := by
  obtain ⟨d1, s1, _⟩ := mny_dig h
  obtain ⟨d2, s2, _⟩ := mny_dig g
  have e := itoa_inj (by obtain ⟨x, y, _⟩ := h; omega) (by obtain ⟨x, y, _⟩ := g; omega) (d1.symm.trans d2)
  have s := s1.symm.trans s2
  omega
theorem rmn_yes {l : List UInt8} {n : Int} (h : IsMny l n) : rmnB l = true ∧ rmnV l = n := by
  have hx : ∃ n, IsMny l n := ⟨n, h⟩
  refine ⟨@decide_eq_true _ (Classical.propDecidable _) hx, ?_⟩
  unfold rmnV
  rw [@dif_pos _ (Classical.propDecidable _) hx]
  exact mny_inj hx.choose_spec h
theorem rmn_no {l : List UInt8} (h : ∀ n, ¬ IsMny l n) : rmnB l = false ∧ rmnV l = 0 := by
  have hx : ¬ ∃ n, IsMny l n := fun ⟨n, g⟩ => h n g
  refine ⟨@decide_eq_false _ (Classical.propDecidable _) hx, ?_⟩
  unfold rmnV
  rw [@dif_neg _ (Classical.propDecidable _) hx]
theorem mny_of_text {l : List UInt8} {n : Int} (hl : l ≠ []) (h : mnyX n = l) : IsMny l n := by
  unfold mnyX at h
  split at h
  · rename_i g; exact ⟨g.1, g.2, h.symm⟩
  · exact absurd h.symm hl
theorem mnyX_of {l : List UInt8} {n : Int} (h : IsMny l n) : mnyX n = l := by
  obtain ⟨a, b, rfl⟩ := h
  unfold mnyX; rw [if_pos ⟨a, b⟩]
theorem mny_ret {l : List UInt8} {b : Bool} {n : Int} (h : rmnB l = b ∧ rmnV l = n) : Ending.returned (.tuple #[.int .i64 n, .bool b]) = .returned (.tuple #[.int .i64 (rmnV l), .bool (rmnB l)]) := by rw [h.1, h.2]

theorem specMoneyText_any (n : Int) (w : World) : Calls Tryd.prog 24 #[.int .i64 n] w fun e w' => e = .returned (.string (S (mnyX n))) ∧ Below w.heap.size w w' := by
  by_cases h : -1000000000000 ≤ n ∧ n ≤ 1000000000000
  · have e : mnyX n = moneyT n := by unfold mnyX; rw [if_pos h]
    rw [e]; exact specMoneyText_yes n w h.1 h.2
  · have e : mnyX n = [] := by unfold mnyX; rw [if_neg h]
    rw [e]; exact (specMoneyText_no n w (by omega)).mono fun _ _ ⟨a, b⟩ => ⟨a, b ▸ Below.refl _ _⟩
theorem implMoneyText_any (n : Int) (B : Nat) (w : World) (hT : Tab B w) : Calls Tryd.prog 19 #[.int .i64 n] w fun e w' => e = .returned (.string (S (mnyX n))) ∧ Below w.heap.size w w' := by
  by_cases h : -1000000000000 ≤ n ∧ n ≤ 1000000000000
  · have e : mnyX n = moneyT n := by unfold mnyX; rw [if_pos h]
    rw [e]; exact implMoneyText_yes n B w hT h.1 h.2
  · have e : mnyX n = [] := by unfold mnyX; rw [if_neg h]
    rw [e]; exact (implMoneyText_no n w (by omega)).mono fun _ _ ⟨a, b⟩ => ⟨a, b ▸ Below.refl _ _⟩

/-- A slice of bytes as it reads; as a string. -/
def RdB (w : World) (g off n : Nat) (l : List UInt8) : Prop := l.length = n ∧ g < w.heap.size ∧ ∀ i, i < l.length → w.cell? ⟨g, off + i, none⟩ = some (.int .u8 ((l.getD i 0).toNat : Int))
theorem strOf (l : List UInt8) : strOfNums (l.map fun c => (c.toNat : Int)) = S l := by
  unfold strOfNums S
  congr 1
  rw [List.map_map]
  congr 1
  conv => rhs; rw [← List.map_id l]
  apply List.map_congr_left
  intro c _
  simp
theorem conv_bytes {w : World} {g off n c : Nat} {l : List UInt8} (h : RdB w g off n l) : (convert 25 9 (.slice (some ⟨g, off, none⟩) n c)).run Tryd.prog w = .ok (.string (S l)) w := by
  obtain ⟨hl, hg, hx⟩ := h
  have := run_convert_bytes_arg (P := Tryd.prog) w 25 5 Tryd.underlying25 Tryd.underlying5 g off n c (l.map fun c => (c.toNat : Int)) (by simpa using hl) (fun i hi => by
    rw [hx i (by omega)]
    congr 2
    simp [List.getD, hl, hi]) 9 Tryd.underlying9
  rw [this, strOf]
theorem infoU8 : (Tryd.prog.info? 5).map (fun i => (i.zero, i.size, i.bytes)) = some (some (.int .u8 0), 1, 1) := by kernel_rfl
def bV (c : UInt8) : Value := .int .u8 (c.toNat : Int)
theorem rdb_of_own {w : World} {B e n g c : Nat} {l : List UInt8} (h : w.ownsRow B e 1 (.slice (some ⟨g, 0, none⟩) n c) n (l.map bV)) : RdB w g 0 n l := by
  have hl : l.length = n := by have := h.1; simpa using this
  have hlt := (h.lt g rfl).2
  refine ⟨hl, hlt, fun i hi => ?_⟩
  rw [Nat.zero_add, h.cellAt i (by omega), List.getElem?_map]
  simp [List.getD, hi, bV]
theorem strip_drop {l : List UInt8} (h : 1 < l.length) (g : l.getD 0 0 = 48) : strip (l.drop 1) = strip l := by
  match l, h with
  | x :: y :: r, _ =>
    have : x = 48 := by simpa using g
    subst this
    rfl
theorem strip_stop {l : List UInt8} (h : l.length ≤ 1 ∨ l.getD 0 0 ≠ 48) : strip l = l := by
  match l with
  | [] => rfl
  | [x] => rfl
  | x :: y :: r =>
    unfold strip
    rw [if_neg (fun e => by rcases h with h | h; simp at h; exact h (by simpa using e))]
theorem rdb_drop {w : World} {g off n : Nat} {l : List UInt8} (h : RdB w g off n l) (h1 : 1 ≤ n) : RdB w g (off + 1) (n - 1) (l.drop 1) := by
  obtain ⟨hl, hg, hx⟩ := h
  refine ⟨by simp; omega, hg, fun i hi => ?_⟩
  have : i + 1 < l.length := by simp at hi; omega
  rw [show off + 1 + i = off + (i + 1) by omega, hx (i + 1) this]
  congr 3
  simp [List.getD]

theorem digF_step (s : ByteArray) (k : Nat) (h : k < s.size) : digF (s.data.toList.take (k + 1)) = digF (s.data.toList.take k) ++ if isD s[k] = true then [s[k]] else [] := by
  rw [take_snocB s k h, digF_app]
  congr 1
  unfold digF
  rw [List.filter_cons]
  rfl
theorem head0 (s : ByteArray) (h : 0 < s.size) : s.data.toList.head? = some s[0] := by
  have e := take_snocB s 0 h
  cases hl : s.data.toList with
  | nil => have : s.data.toList.length = s.size := by simp
           rw [hl] at this; simp at this; omega
  | cons a r => rw [hl] at e; simpa using e
theorem dig_empty {w w' : World} {n : Int} {ok : Bool} (h1 : ok = true → ([] : List UInt8) = Lib.itoa n) : ok = false := by
  cases ok with
  | false => rfl
  | true => exact absurd (h1 rfl).symm (itoa_ne n)

set_option maxHeartbeats 2000000 in
set_option maxRecDepth 100000 in
theorem specReadMoney_any (s : ByteArray) (w : World) (hs : s.size ≤ 1048576) :
    Calls Tryd.prog 15 #[.string s] w fun e w' => e = .returned (.tuple #[.int .i64 (rmnV s.data.toList), .bool (rmnB s.data.toList)]) ∧ Below w.heap.size w w' := by
  have HL : Hid (s.data.toList.length = s.size) := by show _ = _; simp
  obtain ⟨i0, hi, hz0, hz1, hz2⟩ := info_parts infoU8
  go_enter Tryd.func15, Tryd.ntmps15
  go_wp2_with fail
  go_loopw [4, 5] (fun o i wr => ∃ (k n g c : Nat), k ≤ s.size ∧ n ≤ k ∧ i = .int .i64 k ∧ o = .slice (some ⟨g, 0, none⟩) n c ∧ Hid (wr.ownsRow w.heap.size 5 1 (.slice (some ⟨g, 0, none⟩) n c) n ((digF (s.data.toList.take k)).map bV)) ∧ Hid (Below w.heap.size w wr)) (fun _ i _ => s.size - (intOf i).toNat)
  case atStart => exact ⟨0, 0, _, _, by omega, by omega, rfl, rfl, World.ownsRow_made w #[] 0 (Nat.le_refl _) (by unfold maxLen; omega) rfl, b0 _ _⟩
  case round =>
    obtain ⟨k, n, g, c, hk, hn, rfl, rfl, HO, HB⟩ := hrel
    by_cases hlt : k < s.size
    · have DS := Lib.hid (digF_step s k hlt)
      by_cases hd : 48 ≤ (s[k].toNat : Int) ∧ (s[k].toNat : Int) ≤ 57
      · have HN : Hid ((digF (s.data.toList.take (k + 1))).map bV = (digF (s.data.toList.take k)).map bV ++ [.int .u8 (s[k].toNat : Int)]) := by
          show _ = _
          rw [DS.out, if_pos (show isD s[k] = true from decide_eq_true (by omega)), List.map_append]; rfl
        obtain ⟨hd1, hd2⟩ := hd
        go_wp2_with (at_builtin; refine wpList_append_own _ rfl _ _ 25 rfl w.heap.size 5 i0 (.int .u8 0) 1 1 Tryd.underlying25 hi hz0 hz1 hz2 rfl (by decide) _ _ _ rfl (HO.out.alloc _) ⟨wr.heap.size, 0, none⟩ 1 1 [.int .u8 (s[k].toNat : Int)] rfl rfl ?c1 ?c2 ?c3 ?c4 ?c5 ?c6)
        case c1 =>
          intro j u hj; match j, hj with | 0, hj => simp at hj; subst hj; simp [Addr.add]
        case c2 => intro u hu; simp at hu; subst hu; rfl
        case c3 => unfold maxLen; omega
        case c4 => omega
        case c5 => have := HB.out.size; simp; omega
        intro v' w9 hown' hgrow hnil'
        obtain ⟨ao', c', rfl⟩ := own_shape hown'
        obtain ⟨g', rfl⟩ : ∃ g', ao' = some ⟨g', 0, none⟩ := by
          rcases hown'.2 with ⟨h1, h2⟩ | ⟨q, _, _, h1, _⟩
          · have := hown'.1; rw [h2] at this; simp at this
          · injection h1 with h1 _ _; exact ⟨q, h1⟩
        have HO9 := Lib.hid hown'
        have HB9 := Lib.hid (app_step HB.out HB.out.size HO.out hgrow).1
        clear hown' hgrow hnil'
        go_wp2
        go_roundw
        case rel => exact ⟨k + 1, n + 1, g', c', by omega, by omega, by go_num, rfl, by show World.ownsRow _ _ _ _ _ _ _; rw [HN.out]; exact HO9.out, HB9.out⟩
        case measure => simp [intOf]; omega
      · have HN : Hid (digF (s.data.toList.take (k + 1)) = digF (s.data.toList.take k)) := by
          show _ = _
          rw [DS.out, if_neg (fun e => hd (by have := isD_of e; omega)), List.append_nil]
        have hd2 : (s[k].toNat : Int) < 48 ∨ 57 < (s[k].toNat : Int) := by omega
        clear hd
        go_wp2_with fail
        all_goals
          go_roundw
          case rel => exact ⟨k + 1, n, g, c, by omega, by omega, by go_num, rfl, by show World.ownsRow _ _ _ _ _ _ _; rw [HN.out]; exact HO.out, HB.out⟩
          case measure => simp [intOf]; omega
    · obtain rfl : k = s.size := by omega
      have HR : Hid (RdB wr g 0 n (digF s.data.toList)) := by
        have := HO.out
        rw [List.take_of_length_le (by rw [HL.out]; exact Nat.le_refl _)] at this
        exact rdb_of_own this
      obtain ⟨hc1, hc2⟩ : n ≤ c ∧ c ≤ 9223372036854775807 := by
        rcases HO.out.2 with ⟨h1, _⟩ | ⟨_, _, _, h1, _, _, h3, h4, _⟩
        · cases h1
        · injection h1 with _ _ h1; subst h1; unfold maxLen at h4; exact ⟨by omega, by omega⟩
      clear HO hlt hk
      go_wp2_with fail
      go_loop [4] (fun o => ∃ (off m cc : Nat) (l : List UInt8), m ≤ s.size ∧ m ≤ cc ∧ cc ≤ 9223372036854775807 ∧ o = .slice (some ⟨g, off, none⟩) m cc ∧ Hid (RdB wr g off m l) ∧ Hid (strip l = strip (digF s.data.toList))) (fun o => lenOf o)
      case atStart => exact ⟨0, n, c, _, by omega, by omega, by omega, rfl, HR.out, rfl⟩
      case round =>
        obtain ⟨off, m, cc, l, hm, hmc, hcc, rfl, HRm, HST⟩ := hrel
        by_cases hC : 1 < m ∧ l.getD 0 0 = 48
        · obtain ⟨h1m, h48⟩ := hC
          have hcell : wr.cell? ⟨g, off, none⟩ = some (.int .u8 48) := by
            have := HRm.out.2.2 0 (by have := HRm.out.1; omega)
            rw [Nat.add_zero, h48] at this; exact this
          have HD := Lib.hid (rdb_drop HRm.out (by omega))
          have HS2 : Hid (strip (l.drop 1) = strip (digF s.data.toList)) := by show _ = _; rw [strip_drop (by have := HRm.out.1; omega) h48]; exact HST.out
          clear h48
          go_wp2_with fail
          go_round
          case rel => exact ⟨off + 1, m - 1, cc - 1, l.drop 1, by omega, by omega, by omega, rfl, HD.out, HS2.out⟩
          case measure => simp [lenOf]; omega
        · have QS : Hid (l = strip (digF s.data.toList)) := by
            show _ = _
            rw [← HST.out, strip_stop]
            have := HRm.out.1
            by_cases h1 : 1 < m
            · exact .inr fun e => hC ⟨h1, e⟩
            · exact .inl (by omega)
          have CV := conv_bytes (c := cc) HRm.out
          have HCV := Lib.hid CV
          have hq : l.length ≤ 1048576 := by have := HRm.out.1; omega
          have HAB : m ≤ 1 ∨ (1 < m ∧ wr.cell? ⟨g, off, none⟩ = some (.int .u8 ((l.getD 0 0).toNat : Int)) ∧ (((l.getD 0 0).toNat : Int) == 48) = false) := by
            by_cases h1 : 1 < m
            · refine .inr ⟨h1, ?_, ?_⟩
              · have := HRm.out.2.2 0 (by have := HRm.out.1; omega)
                rw [Nat.add_zero] at this; exact this
              · have hne : l.getD 0 0 ≠ 48 := fun e => hC ⟨h1, e⟩
                exact beq_eq_false_iff_ne.2 fun e => hne (UInt8.toNat_inj.1 (by have : (48 : UInt8).toNat = 48 := rfl; omega))
            · exact .inl (by omega)
          clear hC HRm HST CV
          generalize l.getD 0 0 = x at *
          rcases HAB with hA | ⟨hA, hcell, hx⟩
          all_goals
            have CV := HCV.out
            go_wp2_with fail
            refine (l01Digits_any (S l) _ (by rw [S_size]; omega)).mono ?_; rintro e w1 ⟨n0, ok, rfl, n1, n2, h1, h2, hb⟩
            rw [S_list] at h1 h2
            have H1 := Lib.hid h1
            have H2 := Lib.hid h2
            have HB2 := Lib.hid (bl HB.out hb)
            clear h1 h2 hb CV HCV
            cases ok with
            | false =>
              have R := Lib.hid (rmn_no (l := s.data.toList) (fun m hm => by
                obtain ⟨d, _, _⟩ := mny_dig hm
                obtain ⟨a, b, _⟩ := hm
                have := H2.out (m.natAbs : Int) (by omega) (by omega) (QS.out.trans d)
                cases this.1))
              go_wp2_with fail
              go_ret2
              exact ⟨mny_ret R.out, HB2.out⟩
            | true =>
              have hpos : 0 < s.size := by
                rcases Nat.lt_or_ge 0 s.size with h | h
                · exact h
                · have e0 : s.data.toList = [] := List.length_eq_zero_iff.1 (by rw [HL.out]; omega)
                  have e1 := QS.out
                  rw [e0] at e1
                  exact absurd ((show l = [] from e1).symm.trans (H1.out rfl)).symm (itoa_ne n0)
              have HH := Lib.hid (head0 s hpos)
              obtain ⟨N, hN0, hN1, HN, HE⟩ : ∃ N : Int, -10000000000000 < N ∧ N < 10000000000000 ∧ Hid ((s.data.toList.head? = some 45 → N = -n0) ∧ (s.data.toList.head? ≠ some 45 → N = n0)) ∧ Hid (∀ m, IsMny s.data.toList m → m = N) := by
                have key : ∀ m, IsMny s.data.toList m → n0 = (m.natAbs : Int) ∧ (s.data.toList.head? = some 45 ↔ m < 0) := fun m hm => by
                  obtain ⟨d, sg, _⟩ := mny_dig hm
                  obtain ⟨a, b, _⟩ := hm
                  exact ⟨(H2.out (m.natAbs : Int) (by omega) (by omega) (QS.out.trans d)).2, sg⟩
                by_cases h45 : s.data.toList.head? = some 45
                · exact ⟨-n0, by omega, by omega, ⟨fun _ => rfl, fun h => absurd h45 h⟩, fun m hm => by have := key m hm; have := this.2.1 h45; omega⟩
                · exact ⟨n0, by omega, by omega, ⟨fun h => absurd h h45, fun _ => rfl⟩, fun m hm => by have := key m hm; have h3 : ¬ m < 0 := fun e => h45 (this.2.2 e); omega⟩
              have C := Lib.hid (fun w => specMoneyText_any N w)
              obtain ⟨b, HQ, HRs⟩ : ∃ b : Bool, Hid (((S (mnyX N)).toList == s.toList) = b) ∧ Hid ((b = true → rmnB s.data.toList = true ∧ rmnV s.data.toList = N) ∧ (b = false → rmnB s.data.toList = false ∧ rmnV s.data.toList = 0)) := by
                have hne : s.data.toList ≠ [] := fun e => by have := HL.out; rw [e] at this; simp at this; omega
                by_cases hA : mnyX N = s.data.toList
                · exact ⟨true, (Lib.bytes_beq_iff _ _).2 (by rw [hA]; rfl), ⟨fun _ => rmn_yes (mny_of_text hne hA), fun h => by cases h⟩⟩
                · exact ⟨false, (Lib.bytes_beq_false_iff _ _).2 (fun e => hA (by rw [← e]; exact (S_list _).symm)), ⟨(fun h => by cases h), fun _ => rmn_no fun m hm => hA (by rw [← HE.out m hm]; exact mnyX_of hm)⟩⟩
              clear HE
              generalize mnyX N = tx at *
              by_cases h45 : s[0].toNat = 45
              · obtain rfl : N = -n0 := HN.out.1 (by rw [HH.out]; congr 1; exact UInt8.toNat_inj.1 h45)
                have hz : (s[0].toNat : Int) = 45 := by omega
                clear h45
                go_wp2_with fail
                refine (C.out _).mono ?_; rintro e w2 ⟨rfl, hb2⟩
                have HB3 := Lib.hid (bl HB2.out hb2)
                have q1 := HQ.out
                clear hb2
                cases b with
                | true =>
                  go_wp2
                  go_ret2
                  exact ⟨mny_ret (HRs.out.1 (by trivial)), HB3.out⟩
                | false =>
                  go_wp2
                  go_ret2
                  exact ⟨mny_ret (HRs.out.2 (by trivial)), HB3.out⟩
              · obtain rfl : N = n0 := HN.out.2 (by rw [HH.out]; intro e; injection e with e; exact h45 (by rw [e]; rfl))
                have hz : ((s[0].toNat : Int) == 45) = false := beq_eq_false_iff_ne.2 (by omega)
                clear h45
                go_wp2_with fail
                refine (C.out _).mono ?_; rintro e w2 ⟨rfl, hb2⟩
                have HB3 := Lib.hid (bl HB2.out hb2)
                have q1 := HQ.out
                clear hb2
                cases b with
                | true =>
                  go_wp2
                  go_ret2
                  exact ⟨mny_ret (HRs.out.1 (by trivial)), HB3.out⟩
                | false =>
                  go_wp2
                  go_ret2
                  exact ⟨mny_ret (HRs.out.2 (by trivial)), HB3.out⟩

theorem cut_money (s : ByteArray) : ∃ (bd : List UInt8) (neg : Bool), bd.length ≤ s.data.toList.length ∧ Hid (∀ m, IsMny s.data.toList m → bd = posT (m.natAbs : Int) ∧ (neg = true ↔ m < 0)) ∧
    Hid (∀ w, Calls Tryd.prog 63 #[.string s, .string ⟨#[45]⟩] w fun e w' => e = .returned (.tuple #[.string (S bd), .bool neg]) ∧ w = w') := by
  refine ⟨Lib.trimPrefix s.data.toList [45], Lib.hasPrefix s.data.toList [45], Lib.trimPrefix_le _ _, fun m hm => ?_, fun w => (Tryd.strings_CutPrefix s ⟨#[45]⟩ w).mono fun e w' ⟨a, b⟩ => ⟨a, b.symm⟩⟩
  obtain ⟨h0, h1, e⟩ := hm
  rcases moneyT_cases m with ⟨k, hk, rfl, e2⟩ | ⟨k, rfl, e2⟩
  · rw [e, e2]
    have h3 : Lib.hasPrefix (45 :: posT (k : Int)) [45] = true := by simp [Lib.hasPrefix, List.isPrefixOf]
    refine ⟨?_, by rw [h3]; simp; omega⟩
    unfold Lib.trimPrefix
    rw [h3, show (-(k : Int)).natAbs = k by omega]
    rfl
  · rw [e, e2]
    have h3 : Lib.hasPrefix (posT (k : Int)) [45] = false := by
      obtain ⟨c, q, e3, hc⟩ := posT_head k
      rw [e3]
      have hne : ¬ (45 : UInt8) = c := fun g => by subst g; cases hc
      simp [Lib.hasPrefix, List.isPrefixOf, hne]
    refine ⟨?_, by rw [h3]; simp⟩
    unfold Lib.trimPrefix
    rw [h3]
    rfl
theorem replace_len (bd : List UInt8) : (Lib.replace bd [46] [] 1).length ≤ bd.length := by
  by_cases h : (46 : UInt8) ∈ bd
  · obtain ⟨m, r, rfl, hm⟩ := cut_at 46 bd h
    rw [replace_one m r 46 hm]; simp
  · unfold Lib.replace Lib.replaceNum
    rw [if_neg (by simp), Lib.count_one, List.count_eq_zero.2 h, if_pos (by right; decide)]
    exact Nat.le_refl _
theorem parseM_lt (M : Nat) (l : List UInt8) : ∀ a u, Lib.parseUintM M a l = .ok u → u < (a + 1) * 10 ^ l.length := by
  induction l with
  | nil => intro a u h; injection h with h; subst h; simp
  | cons c l ih =>
    intro a u h
    unfold Lib.parseUintM at h
    split at h
    · rename_i hc
      split at h
      · cases h
      · split at h
        · cases h
        · have h1 := ih _ _ h
          have h2 : (a * 10 + (c.toNat - 48) + 1) * 10 ^ l.length ≤ ((a + 1) * 10) * 10 ^ l.length := Nat.mul_le_mul_right _ (by omega)
          rw [List.length_cons, Nat.pow_succ, Nat.mul_comm (10 ^ l.length) 10, ← Nat.mul_assoc]
          exact Nat.lt_of_lt_of_le h1 h2
    · cases h
theorem parseB_lt {l : List UInt8} {u : Nat} (h : Lib.parseUintB 64 l = .ok u) (hl : l.length ≤ 16) : u < 10 ^ 16 := by
  unfold Lib.parseUintB at h
  split at h
  · cases h
  · have := parseM_lt _ l 0 u h
    rw [Nat.zero_add, Nat.one_mul] at this
    exact Nat.lt_of_lt_of_le this (Nat.pow_le_pow_right (by omega) hl)
theorem parse_small {l : List UInt8} {v : Int} (h : Lib.parseIntB 64 l = .ok v) (hl : l.length ≤ 16) : -10000000000000000 ≤ v := by
  cases l with
  | nil => cases h
  | cons c r =>
    by_cases h45 : c.toNat = 45
    · obtain rfl : c = 45 := UInt8.toNat_inj.1 h45
      rw [Lib.parseIntB_minus] at h
      cases hp : Lib.parseUintB 64 r with
      | ok u =>
        have := parseB_lt hp (by simp at hl; omega)
        rw [hp] at h; unfold Lib.signedC at h
        simp only at h
        split at h
        · cases h
        · injection h with h; omega
      | _ => rw [hp] at h; cases h
    · have e : Lib.parseIntB 64 (c :: r) = Lib.signlessC (2 ^ (64 - 1)) (Lib.parseUintB 64 (if c.toNat = 43 then r else c :: r)) := by
        by_cases h43 : c.toNat = 43
        · obtain rfl : c = 43 := UInt8.toNat_inj.1 h43
          rw [Lib.parseIntB_plus]; rfl
        · rw [Lib.parseIntB_plain 64 c r h43 h45, if_neg h43]
      rw [e] at h
      generalize (if c.toNat = 43 then r else c :: r) = q at h
      cases hp : Lib.parseUintB 64 q with
      | ok u =>
        rw [hp] at h; unfold Lib.signlessC at h
        simp only at h
        split at h
        · cases h
        · injection h with h; omega
      | _ => rw [hp] at h; cases h
theorem not_empty (s : ByteArray) (h : 0 < s.size) : s.toList.isEmpty = false := by
  cases e : s.toList with
  | nil =>
    have : (s.toList == (⟨#[]⟩ : ByteArray).toList) = true := by rw [e]; kernel_rfl
    have := (Lib.bytes_beq_iff _ _).1 this
    subst this
    cases h
  | cons a l => rfl
/-- ParseInt of the digits of an amount. -/
theorem mny_parse {l bd : List UInt8} {m : Int} (h : IsMny l m) (hb : bd = posT (m.natAbs : Int)) : Lib.parseIntB 64 (Lib.replace bd [46] [] 1) = .ok (m.natAbs : Int) := by
  subst hb
  obtain ⟨h0, h1, _⟩ := h
  obtain ⟨a, b, c⟩ := monD_ok m.natAbs
  rw [posT_rep, parse_pos _ a c (by rw [b]; omega), b]

set_option maxHeartbeats 2000000 in
set_option maxRecDepth 100000 in
theorem implReadMoney_any (s : ByteArray) (B : Nat) (w : World) (hs : s.size ≤ 1048576) (hT : Tab B w) (hD : DoorE w) (hM : DoorM w) :
    Calls Tryd.prog 16 #[.string s] w fun e w' => e = .returned (.tuple #[.int .i64 (rmnV s.data.toList), .bool (rmnB s.data.toList)]) ∧ Below w.heap.size w w' := by
  have HL : Hid (s.data.toList.length = s.size) := by show _ = _; simp
  have HT := Lib.hid hT
  have HD := Lib.hid hD
  obtain ⟨mx, hmx⟩ := hM
  have HM := Lib.hid hmx
  clear hT hD hmx
  obtain ⟨bd, neg, hbl, HK, CP⟩ := cut_money s
  have hz : (S bd).size = bd.length := S_size bd
  by_cases h0 : s.size = 0
  · have R := Lib.hid (rmn_no (l := s.data.toList) (fun m hm => (mny_dig hm).2.2 (List.length_eq_zero_iff.1 (by rw [HL.out]; exact h0))))
    have hb0 : bd.length ≤ 0 := by have := HL.out; omega
    obtain rfl : s = ⟨#[]⟩ := by
      have : s.data.toList = [] := List.length_eq_zero_iff.1 (by rw [HL.out]; exact h0)
      rw [← S_eq s, this]; rfl
    clear h0 hbl HK HL
    go_enter Tryd.func16, Tryd.ntmps16
    go_wp2_with fail
    refine (CP.out _).mono ?_; rintro e w1 ⟨rfl, rfl⟩
    go_wp2
    go_ret2
    exact ⟨mny_ret R.out, Below.refl _ _⟩
  · have hne := not_empty s (by omega)
    have hnl : s.data.toList ≠ [] := fun e => by have := HL.out; rw [e] at this; simp at this; omega
    have HNL := Lib.hid hnl
    clear hnl
    by_cases h16 : 16 < bd.length
    · have R := Lib.hid (rmn_no (l := s.data.toList) (fun m hm => by
        have h3 := (HK.out m hm).1
        obtain ⟨a, b, _⟩ := hm
        have := posT_len m.natAbs (by omega)
        rw [← h3] at this; omega))
      clear h0 hbl
      go_enter Tryd.func16, Tryd.ntmps16
      go_wp2_with fail
      refine (CP.out _).mono ?_; rintro e w1 ⟨rfl, rfl⟩
      go_wp2
      go_ret2
      exact ⟨mny_ret R.out, Below.refl _ _⟩
    · have hb16 : bd.length ≤ 16 := by omega
      have RP := Lib.hid (Tryd.strings_Replace (S bd) ⟨#[46]⟩ ⟨#[]⟩ 1 mx w (by rw [S_size]; omega) HM.out (Nat.le_refl 1) (by show (S bd).size + _ * 0 ≤ _; rw [S_size]; omega))
      have RS : Hid (∀ w', Below w.heap.size w w' → Calls Tryd.prog 64 #[.string (S (Lib.replace bd [46] [] 1)), .int .i64 10, .int .i64 64] w' (Prs (Lib.replace bd [46] [] 1) w')) := by
        intro w' hw'
        have := parse_any (S (Lib.replace bd [46] [] 1)) w' (by rw [S_size]; have := replace_len bd; omega) (HD.out.below hw')
        rw [S_list] at this
        exact this
      rw [S_list] at RP
      have HRL : Hid ((Lib.replace bd [46] [] 1).length ≤ 16) := Nat.le_trans (replace_len bd) hb16
      have KP : Hid (∀ m, IsMny s.data.toList m → Lib.parseIntB 64 (Lib.replace bd [46] [] 1) = .ok (m.natAbs : Int) ∧ (neg = true ↔ m < 0)) := fun m hm => ⟨mny_parse hm (HK.out m hm).1, (HK.out m hm).2⟩
      clear h0 hbl h16 HK
      change Hid (Calls Tryd.prog 65 #[.string (S bd), .string ⟨#[46]⟩, .string ⟨#[]⟩, .int .i64 1] w fun e w' => e = .returned (.string (S (Lib.replace bd [46] [] 1))) ∧ Below w.heap.size w w') at RP
      generalize Lib.replace bd [46] [] 1 = rp at *
      go_enter Tryd.func16, Tryd.ntmps16
      go_wp2_with fail
      refine (CP.out _).mono ?_; rintro e w1 ⟨rfl, rfl⟩
      go_wp2_with fail
      refine RP.out.mono ?_; rintro e w1 ⟨rfl, hb1⟩
      have HB1 := Lib.hid hb1
      clear hb1
      go_wp2_with fail
      refine (RS.out _ HB1.out).mono ?_; rintro e w2 ⟨v, x, rfl, v0, v1, hb2, hp⟩
      have HB2 := Lib.hid (bl HB1.out hb2)
      have HT2 := Lib.hid (HT.out.below HB2.out)
      clear hb2
      rcases hp with ⟨rfl, hp⟩ | ⟨⟨T1, N1, rfl⟩, hp⟩
      · have key : Hid (∀ m, IsMny s.data.toList m → v = (m.natAbs : Int) ∧ (neg = true ↔ m < 0)) := fun m hm => by
          have h3 := (KP.out m hm).1
          rw [hp] at h3
          injection h3 with h3
          exact ⟨h3, (KP.out m hm).2⟩
        have v3 := parse_small hp HRL.out
        clear hp
        cases neg with
        | true =>
          have v2 : -9223372036854775807 ≤ v := by omega
          have E2 : Hid (∀ m, IsMny s.data.toList m → m = -v) := fun m hm => by have h3 := key.out m hm; have := h3.2.1 rfl; omega
          have MT := Lib.hid (fun w hT => implMoneyText_any (-v) B w hT)
          clear v0
          by_cases hA : mnyX (-v) = s.data.toList
          · have R := Lib.hid (rmn_yes (mny_of_text HNL.out hA))
            have Q1 : Hid (((S (mnyX (-v))).toList == s.toList) = true) := (Lib.bytes_beq_iff _ _).2 (by rw [hA]; rfl)
            clear hA
            generalize mnyX (-v) = tx at *
            go_wp2_with fail
            refine (MT.out _ HT2.out).mono ?_; rintro e w3 ⟨rfl, hb3⟩
            have q1 := Q1.out
            go_wp2
            go_ret2
            exact ⟨mny_ret R.out, bl HB2.out hb3⟩
          · have R := Lib.hid (rmn_no (l := s.data.toList) (fun m hm => hA (by rw [← E2.out m hm]; exact mnyX_of hm)))
            have Q1 : Hid (((S (mnyX (-v))).toList == s.toList) = false) := (Lib.bytes_beq_false_iff _ _).2 (fun e => hA (by rw [← e]; exact (S_list _).symm))
            clear hA
            generalize mnyX (-v) = tx at *
            go_wp2_with fail
            refine (MT.out _ HT2.out).mono ?_; rintro e w3 ⟨rfl, hb3⟩
            have q1 := Q1.out
            go_wp2
            go_ret2
            exact ⟨mny_ret R.out, bl HB2.out hb3⟩
        | false =>
          have E2 : Hid (∀ m, IsMny s.data.toList m → m = v) := fun m hm => by have h3 := key.out m hm; have : ¬ m < 0 := (fun g => by have := h3.2.2 g; cases this); omega
          have MT := Lib.hid (fun w hT => implMoneyText_any v B w hT)
          by_cases hA : mnyX v = s.data.toList
          · have R := Lib.hid (rmn_yes (mny_of_text HNL.out hA))
            have Q1 : Hid (((S (mnyX v)).toList == s.toList) = true) := (Lib.bytes_beq_iff _ _).2 (by rw [hA]; rfl)
            clear hA
            generalize mnyX v = tx at *
            go_wp2_with fail
            refine (MT.out _ HT2.out).mono ?_; rintro e w3 ⟨rfl, hb3⟩
            have q1 := Q1.out
            go_wp2
            go_ret2
            exact ⟨mny_ret R.out, bl HB2.out hb3⟩
          · have R := Lib.hid (rmn_no (l := s.data.toList) (fun m hm => hA (by rw [← E2.out m hm]; exact mnyX_of hm)))
            have Q1 : Hid (((S (mnyX v)).toList == s.toList) = false) := (Lib.bytes_beq_false_iff _ _).2 (fun e => hA (by rw [← e]; exact (S_list _).symm))
            clear hA
            generalize mnyX v = tx at *
            go_wp2_with fail
            refine (MT.out _ HT2.out).mono ?_; rintro e w3 ⟨rfl, hb3⟩
            have q1 := Q1.out
            go_wp2
            go_ret2
            exact ⟨mny_ret R.out, bl HB2.out hb3⟩
      · have R := Lib.hid (rmn_no (l := s.data.toList) (fun m hm => hp _ (KP.out m hm).1))
        clear hp
        cases neg with
        | true =>
          go_wp2
          go_ret2
          exact ⟨mny_ret R.out, HB2.out⟩
        | false =>
          go_wp2
          go_ret2
          exact ⟨mny_ret R.out, HB2.out⟩
end Go.Proofs.YtmngljpncglchaaDoor.MoneyReads
