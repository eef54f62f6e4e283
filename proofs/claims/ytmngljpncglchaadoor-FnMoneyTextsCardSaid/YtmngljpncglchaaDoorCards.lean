/-
  DERIVED. GIVEN WITH THE SEED: THE CARDS: each row of YtmngljpncglchaaDoorRows.lean that lists a variable, with what it lists TIED to the program's text (the seventh form; the later family's looks); each row that meets fmt, with fmt's text TOLD by the authors' own Lean function (tested against real Go, not proved from fmt's source: count such statements apart). THE CARD IS WHAT COUNTS. Prove the row's statement (the work); the ties are given (YtmngljpncglchaaDoorTie.lean); close each card by the builder's one call (the guide's Derived/Test/ToyasCard.lean, 'card_holds'). Laid BY PROGRAM, IN A SANDBOX (cutbox-door.mjs). By AI agents, Wed Nov 11 2026. No macro, syntax, notation, axiom, sorry.
-/
import Derived.Test.YtmngljpncglchaaDoorRows
import GoSem.ClaimSeven
namespace Go.Proofs.YtmngljpncglchaaDoor
namespace Rows

/-- THE TIED CARD OF 'laws.FnExactReadMoney'. -/
def fnExactReadMoneyCard : Claim7 := { stood := { row := fnExactReadMoneyRow, standIns := [], harness := (true, "c63add6710dbfaeec844abbe46284a0bbb252a87999541783b56f9ac0068eb88"), looks := true }, kinds := [], alts := [], laidByText := true, laidKinds := [.data, .data, .data, .data, .sentinel, .sentinel, .pinned], laidTests := true, laidLooks := .later }
def FnExactReadMoneyCardSaid : Prop := Claim7.holds Tryd.pinned (.plain (OpenSpec.ofChange fnExactReadMoneySpec)) fnExactReadMoneyCard

/-- THE TIED CARD OF 'laws.FnMoneyTexts'. -/
def fnMoneyTextsCard : Claim7 := { stood := { row := fnMoneyTextsRow, standIns := [], harness := (true, "c63add6710dbfaeec844abbe46284a0bbb252a87999541783b56f9ac0068eb88"), looks := true }, kinds := [], alts := [], laidByText := true, laidKinds := [.data, .data, .data, .data, .sentinel, .sentinel, .pinned], laidTests := true, laidLooks := .later }
def FnMoneyTextsCardSaid : Prop := Claim7.holds Tryd.pinned (.plain (OpenSpec.ofChange fnMoneyTextsSpec)) fnMoneyTextsCard

/-- THE TIED CARD OF 'laws.FnExactMonthText'. -/
def fnExactMonthTextCard : Claim7 := { stood := { row := fnExactMonthTextRow, standIns := [], harness := (true, "c63add6710dbfaeec844abbe46284a0bbb252a87999541783b56f9ac0068eb88"), looks := true }, kinds := [], alts := [], laidByText := true, laidKinds := [.data, .data, .data], laidTests := true, laidLooks := .later }
def FnExactMonthTextCardSaid : Prop := Claim7.holds Tryd.pinned (.plain (OpenSpec.ofChange fnExactMonthTextSpec)) fnExactMonthTextCard

/-- THE TIED CARD OF 'laws.FnExactMoneyText'. -/
def fnExactMoneyTextCard : Claim7 := { stood := { row := fnExactMoneyTextRow, standIns := [], harness := (true, "c63add6710dbfaeec844abbe46284a0bbb252a87999541783b56f9ac0068eb88"), looks := true }, kinds := [], alts := [], laidByText := true, laidKinds := [.data, .data, .data], laidTests := true, laidLooks := .later }
def FnExactMoneyTextCardSaid : Prop := Claim7.holds Tryd.pinned (.plain (OpenSpec.ofChange fnExactMoneyTextSpec)) fnExactMoneyTextCard

/-- THE TIED CARD OF 'laws.FnExactTableText'. -/
def fnExactTableTextCard : Claim7 := { stood := { row := fnExactTableTextRow, standIns := [], harness := (true, "c63add6710dbfaeec844abbe46284a0bbb252a87999541783b56f9ac0068eb88"), looks := true }, kinds := [], alts := [], laidByText := true, laidKinds := [.data, .data, .data], laidTests := true, laidLooks := .later }
def FnExactTableTextCardSaid : Prop := Claim7.holds Tryd.pinned (.plain (OpenSpec.ofChange fnExactTableTextSpec)) fnExactTableTextCard

/-- THE TIED CARD OF 'laws.FnExactSickText'. -/
def fnExactSickTextCard : Claim7 := { stood := { row := fnExactSickTextRow, standIns := [], harness := (true, "c63add6710dbfaeec844abbe46284a0bbb252a87999541783b56f9ac0068eb88"), looks := true }, kinds := [], alts := [], laidByText := true, laidKinds := [.data, .data, .data], laidTests := true, laidLooks := .later }
def FnExactSickTextCardSaid : Prop := Claim7.holds Tryd.pinned (.plain (OpenSpec.ofChange fnExactSickTextSpec)) fnExactSickTextCard

/-- THE TIED CARD OF 'laws.FnExactClassText'. -/
def fnExactClassTextCard : Claim7 := { stood := { row := fnExactClassTextRow, standIns := [], harness := (true, "c63add6710dbfaeec844abbe46284a0bbb252a87999541783b56f9ac0068eb88"), looks := true }, kinds := [], alts := [], laidByText := true, laidKinds := [.data, .data, .data], laidTests := true, laidLooks := .later }
def FnExactClassTextCardSaid : Prop := Claim7.holds Tryd.pinned (.plain (OpenSpec.ofChange fnExactClassTextSpec)) fnExactClassTextCard

/-- THE TIED CARD OF 'laws.FnExactPolicyText'. -/
def fnExactPolicyTextCard : Claim7 := { stood := { row := fnExactPolicyTextRow, standIns := [], harness := (true, "c63add6710dbfaeec844abbe46284a0bbb252a87999541783b56f9ac0068eb88"), looks := true }, kinds := [], alts := [], laidByText := true, laidKinds := [.data, .data, .data, .data, .pinned], laidTests := true, laidLooks := .later }
def FnExactPolicyTextCardSaid : Prop := Claim7.holds Tryd.pinned (.plain (OpenSpec.ofChange fnExactPolicyTextSpec)) fnExactPolicyTextCard

/-- THE TIED CARD OF 'laws.FnExactReadMonth'. -/
def fnExactReadMonthCard : Claim7 := { stood := { row := fnExactReadMonthRow, standIns := [], harness := (true, "c63add6710dbfaeec844abbe46284a0bbb252a87999541783b56f9ac0068eb88"), looks := true }, kinds := [], alts := [], laidByText := true, laidKinds := [.data, .data, .data, .sentinel, .sentinel], laidTests := true, laidLooks := .later }
def FnExactReadMonthCardSaid : Prop := Claim7.holds Tryd.pinned (.plain (OpenSpec.ofChange fnExactReadMonthSpec)) fnExactReadMonthCard

/-- THE TIED CARD OF 'laws.FnMonths'. -/
def fnMonthsCard : Claim7 := { stood := { row := fnMonthsRow, standIns := [], harness := (true, "c63add6710dbfaeec844abbe46284a0bbb252a87999541783b56f9ac0068eb88"), looks := true }, kinds := [], alts := [], laidByText := true, laidKinds := [.data, .data, .data, .sentinel, .sentinel], laidTests := true, laidLooks := .later }
def FnMonthsCardSaid : Prop := Claim7.holds Tryd.pinned (.plain (OpenSpec.ofChange fnMonthsSpec)) fnMonthsCard

/-- THE TIED CARD OF 'laws.FnExactReadTable'. -/
def fnExactReadTableCard : Claim7 := { stood := { row := fnExactReadTableRow, standIns := [], harness := (true, "c63add6710dbfaeec844abbe46284a0bbb252a87999541783b56f9ac0068eb88"), looks := true }, kinds := [], alts := [], laidByText := true, laidKinds := [.data, .data, .data, .data, .sentinel, .sentinel, .pinned], laidTests := true, laidLooks := .later }
def FnExactReadTableCardSaid : Prop := Claim7.holds Tryd.pinned (.plain (OpenSpec.ofChange fnExactReadTableSpec)) fnExactReadTableCard

/-- THE TIED CARD OF 'laws.FnExactReadSick'. -/
def fnExactReadSickCard : Claim7 := { stood := { row := fnExactReadSickRow, standIns := [], harness := (true, "c63add6710dbfaeec844abbe46284a0bbb252a87999541783b56f9ac0068eb88"), looks := true }, kinds := [], alts := [], laidByText := true, laidKinds := [.data, .data, .data, .data, .sentinel, .sentinel, .pinned], laidTests := true, laidLooks := .later }
def FnExactReadSickCardSaid : Prop := Claim7.holds Tryd.pinned (.plain (OpenSpec.ofChange fnExactReadSickSpec)) fnExactReadSickCard

/-- THE SECOND FORM's CARD OF 'laws.FnExactReadMoney'. -/
def fnExactReadMoneyUptoCard : Claim7 := { stood := { row := fnExactReadMoneyUptoRow, standIns := [], harness := (true, "c63add6710dbfaeec844abbe46284a0bbb252a87999541783b56f9ac0068eb88"), looks := true }, kinds := [], alts := [], laidByText := true, laidKinds := [.data, .data, .data, .data, .sentinel, .sentinel, .pinned], laidTests := true, laidLooks := .later }
def FnExactReadMoneyUptoCardSaid : Prop := Claim7.holds Tryd.pinned (.plain (OpenSpec.upto fnExactReadMoneySpec)) fnExactReadMoneyUptoCard

/-- THE SECOND FORM's CARD OF 'laws.FnMoneyTexts'. -/
def fnMoneyTextsUptoCard : Claim7 := { stood := { row := fnMoneyTextsUptoRow, standIns := [], harness := (true, "c63add6710dbfaeec844abbe46284a0bbb252a87999541783b56f9ac0068eb88"), looks := true }, kinds := [], alts := [], laidByText := true, laidKinds := [.data, .data, .data, .data, .sentinel, .sentinel, .pinned], laidTests := true, laidLooks := .later }
def FnMoneyTextsUptoCardSaid : Prop := Claim7.holds Tryd.pinned (.plain (OpenSpec.upto fnMoneyTextsSpec)) fnMoneyTextsUptoCard

/-- THE SECOND FORM's CARD OF 'laws.FnExactMonthText'. -/
def fnExactMonthTextUptoCard : Claim7 := { stood := { row := fnExactMonthTextUptoRow, standIns := [], harness := (true, "c63add6710dbfaeec844abbe46284a0bbb252a87999541783b56f9ac0068eb88"), looks := true }, kinds := [], alts := [], laidByText := true, laidKinds := [.data, .data, .data], laidTests := true, laidLooks := .later }
def FnExactMonthTextUptoCardSaid : Prop := Claim7.holds Tryd.pinned (.plain (OpenSpec.upto fnExactMonthTextSpec)) fnExactMonthTextUptoCard

/-- THE SECOND FORM's CARD OF 'laws.FnExactMoneyText'. -/
def fnExactMoneyTextUptoCard : Claim7 := { stood := { row := fnExactMoneyTextUptoRow, standIns := [], harness := (true, "c63add6710dbfaeec844abbe46284a0bbb252a87999541783b56f9ac0068eb88"), looks := true }, kinds := [], alts := [], laidByText := true, laidKinds := [.data, .data, .data], laidTests := true, laidLooks := .later }
def FnExactMoneyTextUptoCardSaid : Prop := Claim7.holds Tryd.pinned (.plain (OpenSpec.upto fnExactMoneyTextSpec)) fnExactMoneyTextUptoCard

/-- THE SECOND FORM's CARD OF 'laws.FnExactTableText'. -/
def fnExactTableTextUptoCard : Claim7 := { stood := { row := fnExactTableTextUptoRow, standIns := [], harness := (true, "c63add6710dbfaeec844abbe46284a0bbb252a87999541783b56f9ac0068eb88"), looks := true }, kinds := [], alts := [], laidByText := true, laidKinds := [.data, .data, .data], laidTests := true, laidLooks := .later }
def FnExactTableTextUptoCardSaid : Prop := Claim7.holds Tryd.pinned (.plain (OpenSpec.upto fnExactTableTextSpec)) fnExactTableTextUptoCard

/-- THE SECOND FORM's CARD OF 'laws.FnExactSickText'. -/
def fnExactSickTextUptoCard : Claim7 := { stood := { row := fnExactSickTextUptoRow, standIns := [], harness := (true, "c63add6710dbfaeec844abbe46284a0bbb252a87999541783b56f9ac0068eb88"), looks := true }, kinds := [], alts := [], laidByText := true, laidKinds := [.data, .data, .data], laidTests := true, laidLooks := .later }
def FnExactSickTextUptoCardSaid : Prop := Claim7.holds Tryd.pinned (.plain (OpenSpec.upto fnExactSickTextSpec)) fnExactSickTextUptoCard

/-- THE SECOND FORM's CARD OF 'laws.FnExactClassText'. -/
def fnExactClassTextUptoCard : Claim7 := { stood := { row := fnExactClassTextUptoRow, standIns := [], harness := (true, "c63add6710dbfaeec844abbe46284a0bbb252a87999541783b56f9ac0068eb88"), looks := true }, kinds := [], alts := [], laidByText := true, laidKinds := [.data, .data, .data], laidTests := true, laidLooks := .later }
def FnExactClassTextUptoCardSaid : Prop := Claim7.holds Tryd.pinned (.plain (OpenSpec.upto fnExactClassTextSpec)) fnExactClassTextUptoCard

/-- THE SECOND FORM's CARD OF 'laws.FnExactPolicyText'. -/
def fnExactPolicyTextUptoCard : Claim7 := { stood := { row := fnExactPolicyTextUptoRow, standIns := [], harness := (true, "c63add6710dbfaeec844abbe46284a0bbb252a87999541783b56f9ac0068eb88"), looks := true }, kinds := [], alts := [], laidByText := true, laidKinds := [.data, .data, .data, .data, .pinned], laidTests := true, laidLooks := .later }
def FnExactPolicyTextUptoCardSaid : Prop := Claim7.holds Tryd.pinned (.plain (OpenSpec.upto fnExactPolicyTextSpec)) fnExactPolicyTextUptoCard

/-- THE SECOND FORM's CARD OF 'laws.FnExactReadMonth'. -/
def fnExactReadMonthUptoCard : Claim7 := { stood := { row := fnExactReadMonthUptoRow, standIns := [], harness := (true, "c63add6710dbfaeec844abbe46284a0bbb252a87999541783b56f9ac0068eb88"), looks := true }, kinds := [], alts := [], laidByText := true, laidKinds := [.data, .data, .data, .sentinel, .sentinel], laidTests := true, laidLooks := .later }
def FnExactReadMonthUptoCardSaid : Prop := Claim7.holds Tryd.pinned (.plain (OpenSpec.upto fnExactReadMonthSpec)) fnExactReadMonthUptoCard

/-- THE SECOND FORM's CARD OF 'laws.FnMonths'. -/
def fnMonthsUptoCard : Claim7 := { stood := { row := fnMonthsUptoRow, standIns := [], harness := (true, "c63add6710dbfaeec844abbe46284a0bbb252a87999541783b56f9ac0068eb88"), looks := true }, kinds := [], alts := [], laidByText := true, laidKinds := [.data, .data, .data, .sentinel, .sentinel], laidTests := true, laidLooks := .later }
def FnMonthsUptoCardSaid : Prop := Claim7.holds Tryd.pinned (.plain (OpenSpec.upto fnMonthsSpec)) fnMonthsUptoCard

/-- THE SECOND FORM's CARD OF 'laws.FnExactReadTable'. -/
def fnExactReadTableUptoCard : Claim7 := { stood := { row := fnExactReadTableUptoRow, standIns := [], harness := (true, "c63add6710dbfaeec844abbe46284a0bbb252a87999541783b56f9ac0068eb88"), looks := true }, kinds := [], alts := [], laidByText := true, laidKinds := [.data, .data, .data, .data, .sentinel, .sentinel, .pinned], laidTests := true, laidLooks := .later }
def FnExactReadTableUptoCardSaid : Prop := Claim7.holds Tryd.pinned (.plain (OpenSpec.upto fnExactReadTableSpec)) fnExactReadTableUptoCard

/-- THE SECOND FORM's CARD OF 'laws.FnExactReadSick'. -/
def fnExactReadSickUptoCard : Claim7 := { stood := { row := fnExactReadSickUptoRow, standIns := [], harness := (true, "c63add6710dbfaeec844abbe46284a0bbb252a87999541783b56f9ac0068eb88"), looks := true }, kinds := [], alts := [], laidByText := true, laidKinds := [.data, .data, .data, .data, .sentinel, .sentinel, .pinned], laidTests := true, laidLooks := .later }
def FnExactReadSickUptoCardSaid : Prop := Claim7.holds Tryd.pinned (.plain (OpenSpec.upto fnExactReadSickSpec)) fnExactReadSickUptoCard
end Rows
end Go.Proofs.YtmngljpncglchaaDoor
