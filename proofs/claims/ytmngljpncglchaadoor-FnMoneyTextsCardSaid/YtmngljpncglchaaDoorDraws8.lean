/-
  Contracts of the reference's draws of months' and money's texts, and of lists for sums.
  Conditions: the code has at most 4096 bytes.
-/
import Derived.Test.YtmngljpncglchaaDoorDraws7
import Derived.Test.YtmngljpncglchaaDoorDraws4
import Derived.Test.YtmngljpncglchaaDoorMonthReads
import Derived.Test.YtmngljpncglchaaDoorMoneyReads
namespace Go.Proofs.YtmngljpncglchaaDoor.Draws
open Go.RowKit Mem Texts TextPlain
set_option linter.unusedVariables false

theorem monX_len (n : Int) : (MonthReads.monX n).length ≤ 7 := by
  unfold MonthReads.monX
  split
  · rename_i h; rw [(MonthReads.monT_parts n h.1 (by omega)).1]; exact Nat.le_refl _
  · simp
theorem mnyX_len (n : Int) : (MoneyReads.mnyX n).length ≤ 15 := by
  unfold MoneyReads.mnyX
  split
  · rename_i h
    rcases MoneyReads.moneyT_cases n with ⟨m, hm, rfl, e⟩ | ⟨m, rfl, e⟩
    · rw [e]; have := ReadPlain.posT_len m (by omega); simp; omega
    · rw [e]; have := ReadPlain.posT_len m (by omega); omega
  · simp
set_option maxRecDepth 100000 in
theorem drawReadMonth (a : Option Addr) (len cap : Nat) (zs : List Int) (w : World) (h : IsRow .u8 w a len cap zs) (hl : len ≤ 4096) :
    Calls Tryd.prog 53 #[.slice a len cap] w (TextDraw w) := by
  go_enter Tryd.func53, Tryd.ntmps53
  go_wp2_with fail
  refine (from_any a len cap zs w h hl).mono ?_; rintro e w1 ⟨p, rfl, hp, hs, hb⟩
  have HP := Lib.hid hp
  have HB := Lib.hid hb
  have HS := Lib.hid hs
  clear h hp hb hs
  go_wp2_with fail
  refine (month_any p w1 HS.out).mono ?_; rintro e w2 ⟨n, rfl, hn, hs2, hg2⟩
  have HS2 := Lib.hid hs2
  have HG2 := Lib.hid hg2
  have HT := Lib.hid (fun w => MonthReads.specMonthText_any n w)
  have hlen := monX_len n
  clear hs2 hg2 hn
  generalize MonthReads.monX n = tx at *
  go_wp2_with fail
  refine (HT.out _).mono ?_; rintro e w3 ⟨rfl, hb3⟩
  have HS3 := Lib.hid (HS2.out.below hb3)
  have HG3 := Lib.hid (grown_trans HG2.out (grown_of_below hb3 (some p)))
  clear hb3
  go_wp2_with fail
  refine (next_lit p 3 w3 HS3.out (by omega) (by omega)).mono ?_; rintro e w4 ⟨d, rfl, d0, d1, hs4, hg4⟩
  have HS4 := Lib.hid hs4
  have HG4 := Lib.hid (grown_trans HG3.out hg4)
  clear hs4 hg4
  have DM := Lib.hid (damage_any p (S tx) w4 HS4.out (by rw [S_size]; omega))
  have hz := Lib.hid (S_size tx)
  rcases (show d = 0 ∨ 0 < d by omega) with rfl | hd
  · go_wp2_with fail
    refine DM.out.mono ?_; rintro e w5 ⟨u, rfl, hu, hs5, hg5⟩
    have HG5 := Lib.hid (grown_trans HG4.out hg5)
    have HU := Lib.hid hu
    clear hs5 hg5 hu
    go_wp2
    go_ret
    exact ⟨u, rfl, by have := HU.out; have := hz.out; omega, grown_below HB.out HP.out HB.out.size HG5.out⟩
  · go_wp2_with fail
    go_ret
    exact ⟨_, rfl, by rw [hz.out]; omega, grown_below HB.out HP.out HB.out.size HG4.out⟩
set_option maxRecDepth 100000 in
theorem drawReadMoney (a : Option Addr) (len cap : Nat) (zs : List Int) (w : World) (h : IsRow .u8 w a len cap zs) (hl : len ≤ 4096) :
    Calls Tryd.prog 20 #[.slice a len cap] w (TextDraw w) := by
  go_enter Tryd.func20, Tryd.ntmps20
  go_wp2_with fail
  refine (from_any a len cap zs w h hl).mono ?_; rintro e w1 ⟨p, rfl, hp, hs, hb⟩
  have HP := Lib.hid hp
  have HB := Lib.hid hb
  have HS := Lib.hid hs
  clear h hp hb hs
  go_wp2_with fail
  refine (money_any p w1 HS.out).mono ?_; rintro e w2 ⟨n, rfl, hn, hs2, hg2⟩
  have HS2 := Lib.hid hs2
  have HG2 := Lib.hid hg2
  have HT := Lib.hid (fun w => MoneyReads.specMoneyText_any n w)
  have hlen := mnyX_len n
  clear hs2 hg2 hn
  generalize MoneyReads.mnyX n = tx at *
  go_wp2_with fail
  refine (HT.out _).mono ?_; rintro e w3 ⟨rfl, hb3⟩
  have HS3 := Lib.hid (HS2.out.below hb3)
  have HG3 := Lib.hid (grown_trans HG2.out (grown_of_below hb3 (some p)))
  clear hb3
  go_wp2_with fail
  refine (next_lit p 3 w3 HS3.out (by omega) (by omega)).mono ?_; rintro e w4 ⟨d, rfl, d0, d1, hs4, hg4⟩
  have HS4 := Lib.hid hs4
  have HG4 := Lib.hid (grown_trans HG3.out hg4)
  clear hs4 hg4
  have DM := Lib.hid (damage_any p (S tx) w4 HS4.out (by rw [S_size]; omega))
  have hz := Lib.hid (S_size tx)
  rcases (show d = 0 ∨ 0 < d by omega) with rfl | hd
  · go_wp2_with fail
    refine DM.out.mono ?_; rintro e w5 ⟨u, rfl, hu, hs5, hg5⟩
    have HG5 := Lib.hid (grown_trans HG4.out hg5)
    have HU := Lib.hid hu
    clear hs5 hg5 hu
    go_wp2
    go_ret
    exact ⟨u, rfl, by have := HU.out; have := hz.out; omega, grown_below HB.out HP.out HB.out.size HG5.out⟩
  · go_wp2_with fail
    go_ret
    exact ⟨_, rfl, by rw [hz.out]; omega, grown_below HB.out HP.out HB.out.size HG4.out⟩
end Go.Proofs.YtmngljpncglchaaDoor.Draws
