/-
  What the library's variables hold when the call begins: bytealg.MaxLen (DoorM), strconv's two errors (DoorE); ParseInt by what it is good for.
  Conditions: as each lemma says.
-/
import Derived.Test.YtfnmomdjmhbffaaDoorTexts2
import Derived.Test.YtfnmomdjmhbffaaDoorReadPlain2
import Derived.Test.YtfnmomdjmhbffaaDoorLaidTabs
import Derived.Stop.LaidErr
import Derived.Lib.AtoiErrMem
import Derived.Lib.SlicesS
namespace Go.Proofs.YtfnmomdjmhbffaaDoor.Doors
open Go.RowKit Mem Texts TextPlain ReadPlain
set_option linter.unusedVariables false

theorem cell_keep {w w' : World} {p : Addr} {v : Value} (h : w.cell? p = some v) (g : Below w.heap.size w w') : w'.cell? p = some v :=
  (g.cell (World.block_lt_of_cell? w _ h)).trans h
def DoorM (w : World) : Prop := ∃ m, w.cell? ⟨2, 0, none⟩ = some (.int .i64 m)
theorem DoorM.below {w w' : World} (h : DoorM w) (g : Below w.heap.size w w') : DoorM w' := h.elim fun m hm => ⟨m, cell_keep hm g⟩
theorem doorM_of {w : World} (h : w.ShapedOpen Tryd.prog) : DoorM w := Tryd.laysM154.s1_3 w h
def DoorE (w : World) : Prop := (∃ tp p, w.cell? ⟨0, 0, none⟩ = some (.iface tp p)) ∧ ∃ tp p, w.cell? ⟨1, 0, none⟩ = some (.iface tp p)
theorem DoorE.below {w w' : World} (h : DoorE w) (g : Below w.heap.size w w') : DoorE w' :=
  ⟨h.1.elim fun a h => h.elim fun b h => ⟨a, b, cell_keep h g⟩, h.2.elim fun a h => h.elim fun b h => ⟨a, b, cell_keep h g⟩⟩

theorem tErr : Tryd.prog.underlying 36 = some (.interface #[("Error", 85)]) := by kernel_rfl
theorem gSyn : Tryd.prog.globalNamed "strconv.ErrSyntax" = some 0 := by kernel_rfl
theorem gRng : Tryd.prog.globalNamed "strconv.ErrRange" = some 1 := by kernel_rfl
theorem gSynT : (Tryd.prog.globals[0]?).map (·.type) = some 36 := by kernel_rfl
theorem gRngT : (Tryd.prog.globals[1]?).map (·.type) = some 36 := by kernel_rfl
theorem star : "*" ++ "errors.errorString" = "*errors.errorString" := by decide
theorem rowE (u : TypeId) (h : Tryd.prog.typeName? 3 u = some "*errors.errorString") : u = 89 :=
  typeName_ptr_named (nm := "errors.errorString") (by rw [star]; kernel_rfl) (by kernel_rfl) (by decide) u (by rw [star]; exact h)
theorem cES : Tryd.prog.cellsOf 91 = 1 := by kernel_rfl
theorem cStr : Tryd.prog.cellsOf 9 = 1 := by kernel_rfl
def rngD : List UInt8 := [118, 97, 108, 117, 101, 32, 111, 117, 116, 32, 111, 102, 32, 114, 97, 110, 103, 101]
def synD : List UInt8 := [105, 110, 118, 97, 108, 105, 100, 32, 115, 121, 110, 116, 97, 120]

theorem doorE_of {l : List (String × DataW Unit)} {W : World} (h : laidMetH Tryd.prog l W)
    (h1 : (l.filter fun x => x.1 == "strconv.ErrSyntax") = [("strconv.ErrSyntax", .iface "*errors.errorString" (.ptr (.agg [.lit (.string synD)])))])
    (h2 : (l.filter fun x => x.1 == "strconv.ErrRange") = [("strconv.ErrRange", .iface "*errors.errorString" (.ptr (.agg [.lit (.string rngD)])))]) : DoorE W := by
  have k1 := laidMetH.filter (fun x => x.1 == "strconv.ErrSyntax") h
  have k2 := laidMetH.filter (fun x => x.1 == "strconv.ErrRange") h
  rw [h1, MakeChecks.laidMetH_plain _ _ _ (by rfl)] at k1
  rw [h2, MakeChecks.laidMetH_plain _ _ _ (by rfl)] at k2
  obtain ⟨a1, s1, hv1, _⟩ := laid_sentinel k1 gSyn gSynT Tryd.underlying36 rowE Tryd.underlying89 Tryd.underlying91 rfl rfl Tryd.underlying9 cES cStr
  obtain ⟨a2, s2, hv2, _⟩ := laid_sentinel k2 gRng gRngT Tryd.underlying36 rowE Tryd.underlying89 Tryd.underlying91 rfl rfl Tryd.underlying9 cES cStr
  exact ⟨⟨_, _, by simpa using World.var?_cell gSyn hv1 0⟩, ⟨_, _, by simpa using World.var?_cell gRng hv2 0⟩⟩

theorem sat_bd (l : List UInt8) : -9223372036854775808 ≤ Lib.intSat 64 l ∧ Lib.intSat 64 l ≤ 9223372036854775807 := by
  unfold Lib.intSat
  have : (2 : Nat) ^ (64 - 1) = 9223372036854775808 := rfl
  split <;> omega

/-- ParseInt in decimal: what it returns where a number is spelled, and where none is. -/
theorem parse_yes (s : ByteArray) (v : Int) (w : World) (hs : s.size ≤ 281474976710656) (h : Lib.parseIntB 64 s.data.toList = .ok v) :
    Calls Tryd.prog 11 #[.string s, .int .i64 10, .int .i64 64] w fun e w' => e = .returned (.tuple #[.int .i64 v, .nilIface]) ∧ Below w.heap.size w w' :=
  (Tryd.strconv_ParseInt_10_at64_ok s (by omega) v h w).mono fun e w' ⟨he, hw⟩ => ⟨he, by
    rcases hw with rfl | ⟨t, rfl⟩
    · exact Below.refl _ _
    · exact Lib.bytesWorld_below _ _ _⟩
def Bad (w : World) (e : Ending) (w' : World) : Prop := ∃ (v : Int) (T : TypeId) (N : Nat), e = .returned (.tuple #[.int .i64 v, .iface T (.pointer (some ⟨N, 0, none⟩))]) ∧ -9223372036854775808 ≤ v ∧ v ≤ 9223372036854775807 ∧ Below w.heap.size w w'
theorem parse_no (s : ByteArray) (w : World) (hs : s.size ≤ 281474976710656) (h : ∀ v, Lib.parseIntB 64 s.data.toList ≠ .ok v) (hD : DoorE w) :
    Calls Tryd.prog 11 #[.string s, .int .i64 10, .int .i64 64] w (Bad w) := by
  obtain ⟨⟨t1, p1, c1⟩, t2, p2, c2⟩ := hD
  cases hp : Lib.parseIntB 64 s.data.toList with
  | ok v => exact absurd hp (h v)
  | range =>
    refine (Tryd.strconv_ParseInt_10_at64_range s hs hp _ w c2 (.inr ⟨_, _, rfl⟩)).mono fun e w' ⟨N, he, _, _, hb⟩ => ?_
    exact ⟨_, _, N, he, (sat_bd _).1, (sat_bd _).2, hb⟩
  | _ =>
    refine (Any.strconv_ParseInt_10_at64_syntax Tryd.laysC174 s hs hp _ w c1 (.inr ⟨_, _, rfl⟩)).mono fun e w' ⟨N, he, _, _, hb⟩ => ?_
    exact ⟨_, _, N, he, by omega, by omega, hb⟩
def Prs (l : List UInt8) (w : World) (e : Ending) (w' : World) : Prop := ∃ (v : Int) (x : Value), e = .returned (.tuple #[.int .i64 v, x]) ∧ -9223372036854775808 ≤ v ∧ v ≤ 9223372036854775807 ∧ Below w.heap.size w w' ∧
  (x = .nilIface ∧ Lib.parseIntB 64 l = .ok v ∨ (∃ T N, x = .iface T (.pointer (some ⟨N, 0, none⟩))) ∧ ∀ u, Lib.parseIntB 64 l ≠ .ok u)
theorem parse_any (s : ByteArray) (w : World) (hs : s.size ≤ 281474976710656) (hD : DoorE w) :
    Calls Tryd.prog 11 #[.string s, .int .i64 10, .int .i64 64] w (Prs s.data.toList w) := by
  by_cases h : ∃ v, Lib.parseIntB 64 s.data.toList = .ok v
  · obtain ⟨v, hv⟩ := h
    have b := parse_bd hv
    exact (parse_yes s v w hs hv).mono fun e w' ⟨he, hb⟩ => ⟨v, _, he, b.1, b.2, hb, .inl ⟨rfl, hv⟩⟩
  · have h' : ∀ v, Lib.parseIntB 64 s.data.toList ≠ .ok v := fun v e => h ⟨v, e⟩
    exact (parse_no s w hs h' hD).mono fun e w' ⟨v, T, N, he, b1, b2, hb⟩ => ⟨v, _, he, b1, b2, hb, .inr ⟨⟨T, N, rfl⟩, h'⟩⟩
end Go.Proofs.YtfnmomdjmhbffaaDoor.Doors
