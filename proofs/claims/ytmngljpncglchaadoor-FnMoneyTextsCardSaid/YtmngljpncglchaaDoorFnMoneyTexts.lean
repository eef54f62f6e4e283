/-
  Proved: the card of the law FnMoneyTexts: it returns true, for every input.
  Conditions: none: the given statement Rows.FnMoneyTextsSaid, as it stands.
-/
import Derived.Test.YtmngljpncglchaaDoorCards
import Derived.Test.YtmngljpncglchaaDoorTie
import Derived.Deep.DeepHandedRow
import Derived.SevenTiedAt
import Derived.LaidMore
import Derived.Lay
import Derived.Deep.DeepWitnessRowRef
import Derived.WalkKit
import Derived.ProofKit
import Derived.OpenShut
import Derived.ShutString
import Derived.ChangeOld
import Derived.Below
import Derived.IntWalk
import Derived.Test.YtmngljpncglchaaDoorLaidTabs
import Derived.Test.YtmngljpncglchaaDoorDraws8
import Derived.Test.YtmngljpncglchaaDoorDraws9
import Derived.Test.YtmngljpncglchaaDoorSums
namespace Go.Proofs.YtmngljpncglchaaDoor.fnMoneyTexts
open Go.ChangeShapes Go.WideShapes Go.ChangeAt Go.RowKit
open Go.ChangeMaps (open_string shut_string)
set_option linter.unusedVariables false

theorem own : ownKnob Tryd.prog.godebug = none := by kernel_rfl
theorem laidOut : laidOutB Tryd.prog = true := by kernel_rfl

open Mem Texts
-- the witness lies in World.laidAll

theorem within_rev (lo hi : Int) (xs : List Int) : within lo hi xs.reverse = within lo hi xs := by
  unfold within; rw [List.all_reverse]
theorem sum_rev (xs : List Int) : xs.reverse.sum = xs.sum := by
  induction xs with
  | nil => rfl
  | cons a l ih => rw [List.reverse_cons, List.sum_append, ih]; simp; omega
theorem sums_rev (xs : List Int) : Sums.sumV xs.reverse = Sums.sumV xs ∧ Sums.sumC xs.reverse = Sums.sumC xs := by
  have e1 : Sums.ok xs.reverse = Sums.ok xs := by unfold Sums.ok; rw [within_rev, List.length_reverse]
  have e2 : Sums.small xs.reverse = Sums.small xs := by unfold Sums.small; rw [sum_rev]
  unfold Sums.sumV Sums.sumC
  rw [e1, e2, sum_rev]
  exact ⟨rfl, rfl⟩
theorem rev_step (xs : List Int) (q : Nat) (h : q < xs.length) : (xs.drop q).reverse = (xs.drop (q + 1)).reverse ++ [xs.getD q 0] := by
  rw [List.drop_eq_getElem_cons h, List.reverse_cons, getD_lt h]
/-- What an amount tells: its text, and what the text reads as. -/
theorem whole (n : Int) (B : Nat) : ∃ (t : ByteArray) (x : Int) (ok : Bool), Hid (∀ w, Tab B w → Calls Tryd.prog 19 #[.int .i64 n] w fun e w' => e = .returned (.string t) ∧ Below w.heap.size w w') ∧ Hid (∀ w, Calls Tryd.prog 24 #[.int .i64 n] w fun e w' => e = .returned (.string t) ∧ Below w.heap.size w w') ∧
    Hid (∀ w, Tab B w → Doors.DoorE w → Doors.DoorM w → Calls Tryd.prog 16 #[.string t] w fun e w' => e = .returned (.tuple #[.int .i64 x, .bool ok]) ∧ Below w.heap.size w w') ∧
    ((ok = true ∧ x = n ∧ t.toList.isEmpty = false) ∨ (ok = false ∧ t = ⟨#[]⟩)) := by
  refine ⟨S (MoneyReads.mnyX n), _, _, fun w hT => MoneyReads.implMoneyText_any n B w hT, fun w => MoneyReads.specMoneyText_any n w, fun w hT hD hM => MoneyReads.implReadMoney_any _ B w (by rw [S_size]; have := Draws.mnyX_len n; omega) hT hD hM, ?_⟩
  rw [S_list]
  by_cases h : -1000000000000 ≤ n ∧ n ≤ 1000000000000
  · have e : MoneyReads.mnyX n = TextPlain.moneyT n := by unfold MoneyReads.mnyX; rw [if_pos h]
    have hm : MoneyReads.IsMny (MoneyReads.mnyX n) n := ⟨h.1, h.2, e⟩
    have := MoneyReads.rmn_yes hm
    exact .inl ⟨this.1, this.2, MoneyReads.not_empty _ (by rw [S_size]; exact List.length_pos_iff.2 (MoneyReads.mny_dig hm).2.2)⟩
  · have e : MoneyReads.mnyX n = [] := by unfold MoneyReads.mnyX; rw [if_neg h]
    rw [e]
    exact .inr ⟨(MoneyReads.rmn_no fun m hm => (MoneyReads.mny_dig hm).2.2 rfl).1, rfl⟩
/-- What a text reads as. -/
theorem readsAs (u : ByteArray) (hu : u.size ≤ 1000) (B : Nat) : ∃ (v : Int) (ok : Bool), Hid (∀ w, Tab B w → Doors.DoorE w → Doors.DoorM w → Calls Tryd.prog 16 #[.string u] w fun e w' => e = .returned (.tuple #[.int .i64 v, .bool ok]) ∧ Below w.heap.size w w') ∧
    Hid (∀ w, Calls Tryd.prog 15 #[.string u] w fun e w' => e = .returned (.tuple #[.int .i64 v, .bool ok]) ∧ Below w.heap.size w w') ∧ (ok = true → Hid (∀ w, Tab B w → Calls Tryd.prog 19 #[.int .i64 v] w fun e w' => e = .returned (.string u) ∧ Below w.heap.size w w')) := by
  refine ⟨_, _, fun w hT hD hM => MoneyReads.implReadMoney_any u B w (by omega) hT hD hM, fun w => MoneyReads.specReadMoney_any u w (by omega), fun h w hT => ?_⟩
  have hx : ∃ n, MoneyReads.IsMny u.data.toList n := @of_decide_eq_true _ (Classical.propDecidable _) h
  obtain ⟨n, hn⟩ := hx
  have M := MoneyReads.implMoneyText_any n B w hT
  rw [MoneyReads.mnyX_of hn] at M
  rw [(MoneyReads.rmn_yes hn).2]
  exact M

set_option maxHeartbeats 4000000 in
set_option maxRecDepth 100000 in
theorem walk (a0 : Option Addr) (len0 cap0 : Nat) (z0 : List Int) (w : World) (w0 : IsRow .u8 w a0 len0 cap0 z0) (hL : laidMetH Tryd.prog Rows.fnMoneyTextsRow.laid w) (hsh : w.ShapedOpen Tryd.prog) :
    Calls Tryd.prog 4 #[.slice a0 len0 cap0] w fun e w' => e = .returned (.bool true) ∧ Below w.heap.size w w' := by
  have HT := Lib.hid (LaidTabs.tab_of hL (by kernel_rfl))
  have HD := Lib.hid (Doors.doorE_of hL (by kernel_rfl) (by kernel_rfl))
  have HM := Lib.hid (Doors.doorM_of hsh)
  clear hL hsh
  have hlen : len0 ≤ 9223372036854775807 := by
    rcases w0 with ⟨_, rfl, _⟩ | ⟨_, _, h1, h2, _⟩
    · omega
    · unfold maxLen at h2; omega
  by_cases hbig : 4096 < len0
  · clear w0 HT HD HM
    go_enter Tryd.func4, Tryd.ntmps4
    go_wp2
    go_ret
    exact ⟨rfl, Below.refl _ _⟩
  obtain ⟨i0, hi, hz0, hz1, hz2⟩ := info_parts Draws.infoD
  go_enter Tryd.func4, Tryd.ntmps4
  go_wp2_with (go_at_call 17; go_in)
  refine (Draws.drawMoneyText _ _ _ _ _ w0 (by omega)).mono ?_; rintro e w1 ⟨n, rfl, hn, hb1⟩
  have HB1 := Lib.hid hb1
  have W1 := Lib.hid (Draws.row_below w0 hb1)
  unfold Draws.I64 at hn
  obtain ⟨hn1, hn2⟩ := hn
  clear w0 hb1
  obtain ⟨t, x, ok, TI, TS, RI, hw⟩ := whole n w.heap.size
  have HW := Lib.hid hw
  clear hw
  go_wp2_with fail
  refine (TI.out _ (HT.out.below HB1.out)).mono ?_; rintro e w2 ⟨rfl, hb2⟩
  have HB2 := Lib.hid (bl HB1.out hb2)
  have W2 := Lib.hid (Draws.row_below W1.out hb2)
  clear hb2
  go_wp2_with fail
  refine (RI.out _ (HT.out.below HB2.out) (HD.out.below HB2.out) (HM.out.below HB2.out)).mono ?_; rintro e w3 ⟨rfl, hb3⟩
  have HB3 := Lib.hid (bl HB2.out hb3)
  have W3 := Lib.hid (Draws.row_below W2.out hb3)
  clear hb3
  go_wp2_with fail
  refine (Draws.drawReadMoney _ _ _ _ _ W3.out (by omega)).mono ?_; rintro e w4 ⟨u, rfl, hu, hb4⟩
  have HB4 := Lib.hid (bl HB3.out hb4)
  have W4 := Lib.hid (Draws.row_below W3.out hb4)
  obtain ⟨v, os, UI, US, UT⟩ := readsAs u hu w.heap.size
  have HU := Lib.hid UT
  clear hb4 UT hu
  go_wp2_with fail
  refine (UI.out _ (HT.out.below HB4.out) (HD.out.below HB4.out) (HM.out.below HB4.out)).mono ?_; rintro e w5 ⟨rfl, hb5⟩
  have HB5 := Lib.hid (bl HB4.out hb5)
  have W5 := Lib.hid (Draws.row_below W4.out hb5)
  clear hb5
  go_wp2_with fail
  refine (US.out _).mono ?_; rintro e w6 ⟨rfl, hb6⟩
  have HB6 := Lib.hid (bl HB5.out hb6)
  have W6 := Lib.hid (Draws.row_below W5.out hb6)
  clear hb6
  go_wp2_with fail
  refine (Draws.drawSumOf _ _ _ _ _ W6.out (by omega)).mono ?_; rintro e w7 ⟨vl, xs, rfl, hr7, hxs, hall, hb7⟩
  have HB7 := Lib.hid (bl HB6.out hb7)
  obtain ⟨va, vc, rfl, hvn⟩ := rd_shape hr7
  have HR7 := Lib.hid hr7
  have SR := Lib.hid (sums_rev xs)
  have SI := Lib.hid (fun w v h => Sums.implSumOf_any v xs w h)
  have SS := Lib.hid (fun w v h => Sums.specSumOf_any v xs w h)
  have SRI : Hid (∀ w v, Rd w v xs.reverse → Calls Tryd.prog 22 #[v] w fun e w' => e = .returned (.tuple #[.int .i64 (Sums.sumV xs), .int .i64 (Sums.sumC xs)]) ∧ Below w.heap.size w w') := fun w v h => by
    have := Sums.implSumOf_any v xs.reverse w h
    rw [SR.out.1, SR.out.2] at this; exact this
  generalize Sums.sumV xs = sv at *
  generalize Sums.sumC xs = sc at *
  clear hb7 hall hr7 SR
  go_wp2_with fail
  refine (SI.out _ _ HR7.out).mono ?_; rintro e w8 ⟨rfl, hb8⟩
  have HB8 := Lib.hid (bl HB7.out hb8)
  have HR8 := Lib.hid (HR7.out.below hb8)
  clear hb8
  go_wp2_with fail
  refine (SS.out _ _ HR8.out).mono ?_; rintro e w9 ⟨rfl, hb9⟩
  have HB9 := Lib.hid (bl HB8.out hb9)
  have HR9 := Lib.hid (HR8.out.below hb9)
  clear hb9
  go_wp2_with fail
  refine (TS.out _).mono ?_; rintro e w10 ⟨rfl, hb10⟩
  have HB10 := Lib.hid (bl HB9.out hb10)
  have HR10 := Lib.hid (HR9.out.below hb10)
  clear hb10
  rcases HW.out with ⟨rfl, rfl, hne⟩ | ⟨rfl, rfl⟩
  all_goals
    clear HW TI TS RI
    obtain ⟨wE, HBE, HRE, HGO⟩ : ∃ wE, Hid (Below w.heap.size w wE) ∧ Hid (Rd wE (.slice va xs.length vc) xs) ∧ Hid (os = true → Calls Tryd.prog 19 #[.int .i64 v] w10 fun e w' => e = .returned (.string u) ∧ Below w10.heap.size w10 w') := ⟨w10, HB10.out, HR10.out, fun h => (HU.out h).out _ (HT.out.below HB10.out)⟩
    clear HBE HRE wE HU
    cases os
    case' true => go_wp2_with fail; refine (HGO.out (by trivial)).mono ?_; rintro e w11 ⟨rfl, hb11⟩
    case' true => have HBE := Lib.hid (bl HB10.out hb11); have HRE := Lib.hid (HR10.out.below hb11); clear hb11
    case' false => have HBE := HB10; have HRE := HR10
    all_goals
      obtain ⟨wE, hwE, HBE, HRE⟩ : ∃ wE', wE' = _ ∧ Hid (Below w.heap.size w wE') ∧ Hid (Rd wE' (.slice va xs.length vc) xs) := ⟨_, rfl, HBE.out, HRE.out⟩
      subst hwE
      have HX : Hid (∀ q, q < xs.length → ∃ b off, va = some ⟨b, off, none⟩ ∧ ∀ w', Below wE.heap.size wE w' → w'.cell? ⟨b, off + q, none⟩ = some (.int .i64 (xs.getD q 0))) := fun q hq => by
        rcases HRE.out with ⟨_, h2⟩ | ⟨b, off, cap, h1, _, _, _, hb, hx⟩
        · subst h2; simp at hq
        · injection h1 with h1 _ _
          exact ⟨b, off, h1, fun w' hw' => (hw'.cell (p := ⟨b, off + q, none⟩) hb).trans (hx q hq)⟩
      clear HRE HGO
      go_wp2_with fail
      go_loopw [17, 18] (fun o i wr => ∃ (r j : Nat) (z : Int) (ao : Option Addr) (c : Nat), o = .slice ao j c ∧ i = .int .i64 z ∧ z + 1 ≤ r ∧ (r : Int) ≤ z + 1 ∧ j + r ≤ xs.length ∧ xs.length ≤ j + r ∧ Hid (wr.ownsRow wE.heap.size 2 1 (.slice ao j c) j (((xs.drop r).reverse).map (Value.int .i64))) ∧ Hid (Below wE.heap.size wE wr)) (fun _ i _ => (intOf i + 1).toNat)
      case atStart => exact ⟨xs.length, 0, _, _, _, rfl, rfl, by omega, by omega, by omega, by omega, by show World.ownsRow _ _ _ _ _ _ _; rw [List.drop_length]; exact World.ownsRow_made _ #[] 0 (Nat.le_refl _) (by unfold maxLen; omega) rfl, b0 _ _⟩
      case round =>
        obtain ⟨r, j, z, ao, c, rfl, rfl, hz3, hz4, hj1, hj2, HO, HBr⟩ := hrel
        by_cases hzp : 0 ≤ z
        · obtain ⟨q, rfl⟩ := Int.eq_ofNat_of_zero_le hzp
          obtain rfl : r = q + 1 := by omega
          have hq : q < xs.length := by omega
          obtain ⟨b, off, rfl, hcl⟩ := HX.out q hq
          have hck := hcl wr HBr.out
          have RS := Lib.hid (rev_step xs q hq)
          have hq2 : (q : Int) < (xs.length : Int) := by omega
          generalize xs.getD q 0 = xq at *
          clear hcl hzp hz3 hz4
          go_wp2_with (at_builtin; refine wpList_append_own _ rfl _ _ 30 rfl wE.heap.size 2 i0 (.int .i64 0) 1 8 Tryd.underlying30 hi hz0 hz1 hz2 rfl (by decide) _ _ _ rfl (HO.out.alloc _) ⟨wr.heap.size, 0, none⟩ 1 1 [.int .i64 xq] rfl rfl (by intro j u hj; match j, hj with | 0, hj => simp at hj; subst hj; simp [Addr.add]) (by intro u hu; simp at hu; subst hu; rfl) (by unfold maxLen; omega) (by omega) (by have := HBr.out.size; simp; omega) ?_; intro v' w19 hown' hgrow hnil')
          obtain ⟨ao', c', rfl⟩ := own_shape hown'
          have HO9 := Lib.hid hown'
          have HB9' := Lib.hid (app_step HBr.out HBr.out.size HO.out hgrow).1
          clear hown' hgrow hnil'
          go_wp2
          go_roundw
          case rel => exact ⟨q, j + 1, (q : Int) - 1, ao', c', rfl, rfl, by omega, by omega, by omega, by omega, by show World.ownsRow _ _ _ _ _ _ _; rw [RS.out, List.map_append]; exact HO9.out, HB9'.out⟩
          case measure => simp [intOf] <;> omega
        · obtain rfl : r = 0 := by omega
          have HS := Lib.hid ((sl_of_own (n := j) (xs := xs.reverse) (by have := HO.out; rw [List.drop_zero] at this; exact this) (by simp; omega)).rd)
          have hzn : z < 0 := by omega
          clear hzp
          go_wp2_with fail
          refine (SRI.out _ _ HS.out).mono ?_; rintro e w20 ⟨rfl, hb20⟩
          have HBF := Lib.hid (bl (bl HBE.out HBr.out) hb20)
          go_wp2
          go_ret
          exact ⟨by first | rfl | exact Base.ret_bool (by simp), HBF.out⟩

set_option maxRecDepth 100000 in
theorem contract (H : Type) (enc : TypeId × Value → H) (W : World) (base : Nat) (args : Array Value) (ds gs : List (DataW H)) (before : List MemPlace)
    (hval0 : ∀ (j : Nat) t v, Tryd.f4.params[j]? = some t → args[j]? = some v → Value.okWide Tryd.prog W .any base t v)
    (hW : DataW.Whole enc Tryd.prog Tryd.f4.params.toList Rows.fnMoneyTextsSpec.vars false W args.toList ds gs before) (hL : laidMetH Tryd.prog Rows.fnMoneyTextsRow.laid W) (hsh : W.ShapedOpen Tryd.prog) :
    Calls Tryd.prog 4 args W fun e W' => ∃ v, e = .returned v ∧ Rows.fnMoneyTextsSpec.post enc Tryd.prog Tryd.f4 false true false false W args v W' := by
  have hval : ∀ (j : Nat) t v, Tryd.f4.params[j]? = some t → args[j]? = some v → Value.okWide Tryd.prog W .any base t v := hval0
  have hW' := hW
  obtain ⟨p, q, hA0, hV, rfl, hfz, hnd⟩ := hW
  have hA : DataW.TrodAll enc Tryd.prog W 0 (fun _ => true) true Tryd.f4.params.toList args.toList ds p := hA0
  rw [Tryd.params4] at hA hval
  obtain ⟨v0, vs0, d0, ds0, p0, q0, hargs, rfl, rfl, h0, r0⟩ := trodAll_cons hA
  obtain ⟨rfl, rfl, rfl⟩ := trodAll_nil r0
  obtain rfl : args = #[v0] := by cases args; simp_all
  obtain ⟨rfl, rfl⟩ := trodVars_none hV
  obtain ⟨a0, len0, cap0, rfl⟩ := okWide_slice Tryd.underlying25 (hval 0 25 v0 rfl rfl)
  have k0 := h0
  have lt0 : ∀ x ∈ p0, x.block < W.heap.size := by obtain ⟨m, hm⟩ := k0; exact DataW.trod_lt m _ _ _ hm
  obtain ⟨z0, w0⟩ : ∃ zs, IsRow .u8 W a0 len0 cap0 zs := by
    obtain ⟨fuel, hf⟩ := h0
    rcases open_ints Tryd.underlying25 Tryd.underlying5 (by kernel_rfl) hf with ⟨hcs, _⟩ | ⟨x, l, c, zs, hcs, _, hl, hm, hz, _, hcell, hwz⟩
    · simp [Value.cells] at hcs
      obtain ⟨rfl, rfl, rfl⟩ := hcs
      exact ⟨[], .inl ⟨rfl, rfl, rfl, rfl⟩⟩
    · simp [Value.cells] at hcs
      obtain ⟨rfl, rfl, rfl⟩ := hcs
      exact ⟨zs, .inr ⟨_, rfl, hl, hm, by simpa using hz, hcell, hwz⟩⟩
  clear hA0 hval0
  refine (walk a0 len0 cap0 z0 W w0 hL hsh).mono fun e W' ⟨he, bel⟩ => ?_
  subst he
  exact ⟨_, rfl, _, _, _, [], _, [], hW', trodAll_mk1 (shut_bool Tryd.underlying4 _), (trodAll_cons_mk (Below.trod laidOut (by kernel_rfl) (of_decide_eq_true (by kernel_rfl)) k0 bel lt0) trodAll_mk0), rfl, bel.frame _, fun h => by cases h⟩

noncomputable def laidWorld (os : Os) : World := World.laidAll Tryd.prog os Rows.fnMoneyTextsRow.laid
theorem laid_met (os : Os) : laidMet Tryd.prog Rows.fnMoneyTextsRow.laid ((laidWorld os).forCall (fun _ _ => 0) ⟨#[], #[.slice none 0 0], []⟩).memory :=
  laidMet_laidAll _ (by kernel_rfl) (by kernel_rfl)
theorem reads (os : Os) {H : Type} (enc : TypeId × Value → H) : ∃ places, DataW.whole enc Tryd.prog ((laidWorld os).forCall (fun _ _ => 0) ⟨#[], #[.slice none 0 0], []⟩).memory Tryd.f4.params.toList Rows.fnMoneyTextsSpec.vars false (#[.slice none 0 0] : Array Value).toList 8 = some ([.nil], [], places) :=
  ⟨[], by kernel_rfl⟩
set_option maxRecDepth 100000 in
theorem lifted (os : Os) (started : os.Started) (H : Type) (enc : TypeId × Value → H) (F : Stop.Interp) :
    ReturnsInHanded {} Tryd.checked os 4 .any ((OpenSpec.ofChange Rows.fnMoneyTextsSpec).preRow enc Tryd.prog Tryd.f4 Rows.fnMoneyTextsRow.domain false Rows.fnMoneyTextsRow.laid) (((OpenSpec.ofChange Rows.fnMoneyTextsSpec).at F).post enc Tryd.prog Tryd.f4 false true false false) := by
  obtain ⟨places, hx⟩ := reads os enc
  refine returnsInHanded_of_row (C := Tryd.checked) (s := OpenSpec.ofChange Rows.fnMoneyTextsSpec) own started (by kernel_rfl) Tryd.func4
    (witness_row_atRef (enc := enc) (C := Tryd.checked) false (laidWorld os) #[.slice none 0 0] (World.laidAll_os _ _ _) (by kernel_rfl) (by kernel_rfl) (by kernel_rfl) (OpenSpec.preRow_of_cond 8 hx (by kernel_rfl) (fun k hk => by cases hk) (by kernel_rfl) (laid_met os))) ?_
  intro W base args ds gs before hval hW _ _ _ hL hsh _
  exact contract H enc W base args ds gs before hval hW hL hsh

theorem said : Rows.FnMoneyTextsSaid :=
  OpenClaim.holds_of_cond 4 Tryd.f4 rfl rfl rfl rfl rfl rfl rfl ⟨rfl, rfl, rfl, rfl, rfl⟩ rfl rfl rfl rfl rfl (by kernel_rfl) Tryd.func4 (by kernel_rfl)
    (of_decide_eq_true (by kernel_rfl)) (by unfold Func.isWrapper; first | (rw [if_pos (by decide +kernel)]; kernel_rfl) | (rw [if_neg (by decide +kernel)]; exact ⟨rfl, rfl⟩))
    (fun os started H enc _ F => by rw [OpenClaim.pre_eq_preRow]; exact lifted os started H enc F)

theorem plain (f : FuncId) (fn : Func) (hf : Tryd.pinned.checked.prog.funcNamed "loop.example/g01025/laws.FnMoneyTexts" = some f) (hfn : Tryd.pinned.checked.prog.funcs[f]? = some fn) :
    Rows.fnMoneyTextsCard.stood.looks = Tryd.pinned.checked.prog.looks [] ∧ ∀ (j : Nat) t, fn.params[j]? = some t → Tryd.pinned.checked.prog.wantsStandIn t = false := by
  obtain rfl : f = 4 := Option.some.inj ((show Tryd.prog.funcNamed "loop.example/g01025/laws.FnMoneyTexts" = some 4 by kernel_rfl).symm.trans hf) |>.symm
  obtain rfl : fn = Tryd.f4 := (Option.some.inj (Tryd.func4.symm.trans hfn)).symm
  refine ⟨by kernel_rfl, fun j t ht => ?_⟩
  rw [Tryd.params4] at ht
  have hm := Array.mem_of_getElem? ht
  simp only [List.mem_toArray, List.mem_cons, List.not_mem_nil, or_false] at hm
  rcases hm with rfl
  exact (show Tryd.prog.wantsStandIn 25 = false by kernel_rfl)
theorem proved : Rows.FnMoneyTextsCardSaid :=
  Claim7.holds_tied_plain_at .later [] _ _ _ _ said (fun _ h => by cases h) (by kernel_rfl) (fun _ h => by cases h) fnMoneyTexts_row_tie rfl ⟨rfl, rfl⟩ (by kernel_rfl) rfl plain (by kernel_rfl)
end Go.Proofs.YtmngljpncglchaaDoor.fnMoneyTexts
