/-
  Contracts of the cutting of a text into words: the reference's l01Split, the library's Split.
  Conditions: MaxLen reads (DoorM).
-/
import Derived.Test.YtfnmomdjmhbffaaDoorDoors
import Derived.Test.YtfnmomdjmhbffaaDoorReads
import Derived.Test.YtfnmomdjmhbffaaDoorJoins
namespace Go.Proofs.YtfnmomdjmhbffaaDoor.Words
open Go.RowKit Mem Texts TextPlain ReadPlain Reads Doors
set_option linter.unusedVariables false

theorem own_ne {w : World} {B e e' n q : Nat} {v : Value} {xs : List Value} {c : Array Value} {z : Nat × Nat} (h : w.ownsRow B e 1 v n xs) (hb : w.heap[q]? = some (.cells c e' z)) (he : e ≠ e') : v.ownBlock ≠ some q := by
  rcases h.2 with ⟨rfl, _⟩ | ⟨g, cap, cur, rfl, hg, hh, _⟩
  · simp [Value.ownBlock]
  · intro k
    simp [Value.ownBlock] at k
    subst k
    rw [hh] at hb
    injection hb with hb
    injection hb with h1 h2 h3
    exact he h2
theorem app_block {w w1 : World} {B e n q : Nat} {v : Value} {xs : List Value} {o o' : Obj} (hown : w.ownsRow B e 1 v n xs) (hg : (w.alloc o).grownBy w1 v.ownBlock) (hne : v.ownBlock ≠ some q) (hq : w.heap[q]? = some o') : w1.heap[q]? = some o' := by
  have hlt := lt_of_get hq
  exact (hg.block q (by simp; omega) (fun e => hne e.symm)).trans ((b0 w o).block q hlt |>.trans hq)
/-- The slice v reads as words. -/
def RdS (w : World) (v : Value) (ws : List (List UInt8)) : Prop :=
  ∃ b cap, v = .slice (some ⟨b, 0, none⟩) ws.length cap ∧ 1 ≤ ws.length ∧ ws.length ≤ 2000000 ∧ ws.length ≤ cap ∧ (∃ cur, w.heap[b]? = some (.cells cur 9 (0, 0))) ∧ ∀ i, i < ws.length → w.cell? ⟨b, i, none⟩ = some (.string (S (ws.getD i [])))
def sV (x : List UInt8) : Value := .string (S x)
theorem getD_ltS {ws : List (List UInt8)} {i : Nat} (h : i < ws.length) : ws.getD i [] = ws[i] := by simp [List.getD, h]
theorem splitC_len (c : UInt8) (l : List UInt8) : (splitC c l).length ≤ l.length + 1 := by
  induction l with
  | nil => simp [splitC]
  | cons x l ih =>
    unfold splitC
    split
    · simp; exact ih
    · split
      · simp
      · rename_i h t e; rw [e] at ih; simp at ih ⊢; omega
theorem splitC_word (c : UInt8) (l : List UInt8) : ∀ x ∈ splitC c l, x.length ≤ l.length := by
  induction l with
  | nil => intro x hx; simp [splitC] at hx; subst hx; simp
  | cons y l ih =>
    intro x hx
    unfold splitC at hx
    split at hx
    · rcases List.mem_cons.1 hx with rfl | hx
      · simp
      · have := ih x hx; simp; omega
    · split at hx
      · simp at hx; subst hx; simp
      · rename_i h t e
        rcases List.mem_cons.1 hx with rfl | hx
        · have := ih h (by rw [e]; simp); simp; omega
        · have := ih x (by rw [e]; simp [hx]); simp; omega

theorem split_any (s : ByteArray) (c : UInt8) (w : World) (hs : s.size ≤ 1048576) (hM : DoorM w) :
    Calls Tryd.prog 10 #[.string s, .string ⟨#[c]⟩] w fun e w' => ∃ v, e = .returned v ∧ RdS w' v (splitC c s.data.toList) ∧ Below w.heap.size w w' := by
  obtain ⟨m, hm⟩ := hM
  refine (Tryd.strings_Split s ⟨#[c]⟩ m w (by omega) hm (Nat.le_refl 1)).mono fun e w' ⟨he, hw⟩ => ⟨_, he, ?_, by subst hw; exact b0 _ _⟩
  subst hw
  have hall := Lib.splitB_all ⟨#[c]⟩ (Nat.le_refl 1) 0 (Lib.countB s ⟨#[c]⟩) s rfl
  have hd : (Lib.splitB ⟨#[c]⟩ 0 (Lib.countB s ⟨#[c]⟩) s).map (·.data.toList) = splitC c s.data.toList := by
    rw [Lib.splitB_data, ← split_eq c s.data.toList.length s.data.toList (Nat.le_refl _)]; rfl
  have hlen : (splitC c s.data.toList).length = Lib.countB s ⟨#[c]⟩ + 1 := by rw [← hd, List.length_map, hall]
  have hle := splitC_len c s.data.toList
  rw [show s.data.toList.length = s.size by simp] at hle
  rw [← hlen]
  refine ⟨w.heap.size, _, rfl, by omega, by omega, Nat.le_refl _, ⟨_, heap_alloc_new w _⟩, fun i hi => ?_⟩
  refine cell_of_block (heap_alloc_new w _) ?_
  rw [List.getElem?_toArray, List.getElem?_map]
  have hi2 : i < (Lib.splitB ⟨#[c]⟩ 0 (Lib.countB s ⟨#[c]⟩) s).length := by rw [hall]; omega
  rw [List.getElem?_eq_getElem hi2, getD_ltS hi]
  have : (splitC c s.data.toList)[i] = (Lib.splitB ⟨#[c]⟩ 0 (Lib.countB s ⟨#[c]⟩) s)[i].data.toList := by simp [← hd]
  rw [this]; rfl

theorem infoStr : (Tryd.prog.info? 9).map (fun i => (i.zero, i.size, i.bytes)) = some (some (.string ByteArray.empty), 1, 16) := by kernel_rfl
theorem rds_of_own {w : World} {B n c : Nat} {ao : Option Addr} {ws : List (List UInt8)} (h : w.ownsRow B 9 1 (.slice ao n c) n (ws.map sV)) (h1 : 1 ≤ ws.length) (h2 : ws.length ≤ 2000000) : RdS w (.slice ao n c) ws := by
  have hl : ws.length = n := by have := h.1; simpa using this
  rcases h.2 with ⟨_, h3⟩ | ⟨g, cp, cur, hv, hg, hh, hc1, _⟩
  · omega
  · injection hv with e1 e2 e3
    subst e1 e3
    refine ⟨g, c, by rw [hl], h1, h2, by omega, ⟨cur, hh⟩, fun i hi => ?_⟩
    rw [h.cellAt i (by omega), List.getElem?_map, getD_ltS hi, List.getElem?_eq_getElem hi]; rfl
/-- Where the cutting stands ahead of byte k. -/
def Cut (c : UInt8) (l : List UInt8) (done : List (List UInt8)) (fr k : Nat) : Prop :=
  (k ≤ l.length → splitC c l = done ++ splitC c (l.drop fr) ∧ c ∉ (l.drop fr).take (k - fr) ∧ fr ≤ k) ∧ (l.length < k → splitC c l = done)
theorem cut_end {c : UInt8} {l : List UInt8} {done : List (List UInt8)} {fr : Nat} (h : Cut c l done fr l.length) : Cut c l (done ++ [(l.drop fr).take (l.length - fr)]) (l.length + 1) (l.length + 1) := by
  obtain ⟨h1, h2, h3⟩ := h.1 (Nat.le_refl _)
  refine ⟨fun e => by omega, fun _ => ?_⟩
  rw [List.take_of_length_le (by rw [List.length_drop]; exact Nat.le_refl _)] at h2 ⊢
  rw [h1, splitC_none c _ h2]
theorem drop_parts (l : List UInt8) (fr k : Nat) (hf : fr ≤ k) (hk : k < l.length) : l.drop fr = (l.drop fr).take (k - fr) ++ l[k] :: l.drop (k + 1) := by
  have e1 : (l.drop fr).drop (k - fr) = l.drop k := by rw [List.drop_drop]; congr 1; omega
  have e2 := List.take_append_drop (k - fr) (l.drop fr)
  rw [e1, List.drop_eq_getElem_cons hk] at e2
  exact e2.symm
theorem cut_hit {c : UInt8} {l : List UInt8} {done : List (List UInt8)} {fr k : Nat} (h : Cut c l done fr k) (hk : k < l.length) (hc : l[k] = c) : Cut c l (done ++ [(l.drop fr).take (k - fr)]) (k + 1) (k + 1) := by
  obtain ⟨h1, h2, h3⟩ := h.1 (by omega)
  refine ⟨fun _ => ⟨?_, by simp, Nat.le_refl _⟩, fun e => by omega⟩
  have := drop_parts l fr k h3 hk
  rw [hc] at this
  rw [h1, this, splitC_hit c _ _ h2, List.append_assoc]
  rw [← this]; rfl
theorem cut_skip {c : UInt8} {l : List UInt8} {done : List (List UInt8)} {fr k : Nat} (h : Cut c l done fr k) (hk : k < l.length) (hc : l[k] ≠ c) : Cut c l done fr (k + 1) := by
  obtain ⟨h1, h2, h3⟩ := h.1 (by omega)
  refine ⟨fun _ => ⟨h1, ?_, by omega⟩, fun e => by omega⟩
  have e1 : (l.drop fr).take (k + 1 - fr) = (l.drop fr).take (k - fr) ++ [l[k]] := by
    rw [show k + 1 - fr = (k - fr) + 1 by omega, List.take_succ_eq_append_getElem (by rw [List.length_drop]; omega)]
    congr 2
    rw [List.getElem_drop]
    congr 1; omega
  rw [e1]
  intro hm
  rcases List.mem_append.1 hm with hm | hm
  · exact h2 hm
  · simp at hm; exact hc hm.symm
theorem extract_mid (s : ByteArray) (a b : Nat) (h : a ≤ b) : s.extract a b = S ((s.data.toList.drop a).take (b - a)) := by
  rw [← S_eq (s.extract a b)]
  congr 1
  rw [Lib.extract_data]

set_option maxHeartbeats 1000000 in
set_option maxRecDepth 100000 in
theorem l01Split_any (s : ByteArray) (c : UInt8) (ci : Int) (w : World) (hs : s.size ≤ 1048576) (hci : ci = (c.toNat : Int)) :
    Calls Tryd.prog 8 #[.string s, .int .u8 ci] w fun e w' => ∃ v, e = .returned v ∧ RdS w' v (splitC c s.data.toList) ∧ Below w.heap.size w w' := by
  obtain ⟨i0, hi, hz0, hz1, hz2⟩ := info_parts infoStr
  have HL : Hid (s.data.toList.length = s.size) := by show _ = _; simp
  have HCI := Lib.hid hci
  clear hci
  go_enter Tryd.func8, Tryd.ntmps8
  go_wp2_with fail
  go_loopw [5, 6, 7] (fun o f i wr => ∃ (k fr n cc : Nat) (ao : Option Addr) (done : List (List UInt8)), k ≤ s.size + 1 ∧ n ≤ k ∧ fr ≤ k ∧ o = .slice ao n cc ∧ f = .int .i64 fr ∧ i = .int .i64 k ∧ Hid (wr.ownsRow w.heap.size 9 1 (.slice ao n cc) n (done.map sV)) ∧ Hid (Below w.heap.size w wr) ∧ Hid (Cut c s.data.toList done fr k)) (fun _ _ i _ => s.size + 1 - (intOf i).toNat)
  case atStart => exact ⟨0, 0, 0, _, _, [], by omega, by omega, by omega, rfl, rfl, rfl, World.ownsRow_made w #[] 0 (Nat.le_refl _) (by unfold maxLen; omega) rfl, b0 _ _, ⟨fun _ => ⟨rfl, by simp, Nat.le_refl _⟩, fun h => by omega⟩⟩
  case round =>
    obtain ⟨k, fr, n, cc, ao, done, hk, hn, hfr, rfl, rfl, rfl, HO, HB, HC⟩ := hrel
    by_cases hle : k ≤ s.size
    · by_cases hend : k = s.size
      · subst hend
        have C2 : Hid (Cut c s.data.toList (done ++ [(s.data.toList.drop fr).take (s.size - fr)]) (s.size + 1) (s.size + 1)) := by
          have := HC.out; rw [← HL.out] at this ⊢; exact cut_end this
        have EX := extract_mid s fr s.size hfr
        generalize (s.data.toList.drop fr).take (s.size - fr) = word at *
        go_wp2_with (at_builtin; refine wpList_append_own _ rfl _ _ 31 rfl w.heap.size 9 i0 (.string ByteArray.empty) 1 16 Tryd.underlying31 hi hz0 hz1 hz2 rfl (by decide) _ _ _ rfl (HO.out.alloc _) ⟨wr.heap.size, 0, none⟩ 1 1 [.string (S word)] rfl rfl ?c1 ?c2 ?c3 ?c4 ?c5 ?c6)
        case c1 =>
          intro j u hj; match j, hj with | 0, hj => simp at hj; subst hj; simp [Addr.add]
        case c2 => intro u hu; simp at hu; subst hu; rfl
        case c3 => unfold maxLen; omega
        case c4 => omega
        case c5 => have := HB.out.size; simp; omega
        intro v' w9 hown' hgrow hnil'
        obtain ⟨ao', c', rfl⟩ := own_shape hown'
        have HO9 := Lib.hid hown'
        have HB9 := Lib.hid (app_step HB.out HB.out.size HO.out hgrow).1
        clear hown' hgrow hnil' EX
        go_wp2
        go_roundw
        case rel => exact ⟨s.size + 1, s.size + 1, n + 1, c', ao', done ++ [word], by omega, by omega, by omega, rfl, by go_num, by go_num, by show World.ownsRow _ _ _ _ _ _ _; rw [List.map_append]; exact HO9.out, HB9.out, C2.out⟩
        case measure => simp [intOf] <;> omega
      · have hlt : k < s.size := by omega
        have hne : ((k : Int) == (s.size : Int)) = false := beq_eq_false_iff_ne.2 (by omega)
        have hlt2 : k < s.data.toList.length := by rw [HL.out]; exact hlt
        by_cases hc : s[k].toNat = c.toNat
        · have hz : ((s[k].toNat : Int) == ci) = true := by rw [HCI.out]; exact beq_iff_eq.2 (by omega)
          have C2 : Hid (Cut c s.data.toList (done ++ [(s.data.toList.drop fr).take (k - fr)]) (k + 1) (k + 1)) := cut_hit HC.out hlt2 (UInt8.toNat_inj.1 hc)
          have EX := extract_mid s fr k hfr
          generalize (s.data.toList.drop fr).take (k - fr) = word at *
          clear hc hend
          go_wp2_with (at_builtin; refine wpList_append_own _ rfl _ _ 31 rfl w.heap.size 9 i0 (.string ByteArray.empty) 1 16 Tryd.underlying31 hi hz0 hz1 hz2 rfl (by decide) _ _ _ rfl (HO.out.alloc _) ⟨wr.heap.size, 0, none⟩ 1 1 [.string (S word)] rfl rfl ?d1 ?d2 ?d3 ?d4 ?d5 ?d6)
          case d1 =>
            intro j u hj; match j, hj with | 0, hj => simp at hj; subst hj; simp [Addr.add]
          case d2 => intro u hu; simp at hu; subst hu; rfl
          case d3 => unfold maxLen; omega
          case d4 => omega
          case d5 => have := HB.out.size; simp; omega
          intro v' w9 hown' hgrow hnil'
          obtain ⟨ao', c', rfl⟩ := own_shape hown'
          have HO9 := Lib.hid hown'
          have HB9 := Lib.hid (app_step HB.out HB.out.size HO.out hgrow).1
          clear hown' hgrow hnil' EX
          go_wp2
          go_roundw
          case rel => exact ⟨k + 1, k + 1, n + 1, c', ao', done ++ [word], by omega, by omega, by omega, rfl, by go_num, by go_num, by show World.ownsRow _ _ _ _ _ _ _; rw [List.map_append]; exact HO9.out, HB9.out, C2.out⟩
          case measure => simp [intOf] <;> omega
        · have hz : ((s[k].toNat : Int) == ci) = false := by rw [HCI.out]; exact beq_eq_false_iff_ne.2 (by omega)
          have C2 : Hid (Cut c s.data.toList done fr (k + 1)) := cut_skip HC.out hlt2 (fun e => hc (by rw [← e]; rfl))
          clear hc hend
          go_wp2_with fail
          go_roundw
          case rel => exact ⟨k + 1, fr, n, cc, ao, done, by omega, by omega, by omega, rfl, rfl, by go_num, HO.out, HB.out, C2.out⟩
          case measure => simp [intOf] <;> omega
    · have E := Lib.hid (HC.out.2 (by rw [HL.out]; omega))
      have hlen : (splitC c s.data.toList).length ≤ 1048577 := by have := splitC_len c s.data.toList; rw [HL.out] at this; omega
      have hpos : 1 ≤ (splitC c s.data.toList).length := List.length_pos_iff.2 (splitC_ne c _)
      have HR := Lib.hid (rds_of_own (ws := done) HO.out (by rw [← E.out]; exact hpos) (by rw [← E.out]; omega))
      have hle2 : s.size < k := by omega
      clear hlen hpos hle
      go_wp2
      go_ret
      exact ⟨_, rfl, by rw [E.out]; exact HR.out, HB.out⟩
end Go.Proofs.YtfnmomdjmhbffaaDoor.Words
