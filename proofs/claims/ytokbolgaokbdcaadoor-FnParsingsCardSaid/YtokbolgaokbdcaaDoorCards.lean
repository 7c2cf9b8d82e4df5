/-
  DERIVED. GIVEN WITH THE SEED: THE CARDS: each row of YtokbolgaokbdcaaDoorRows.lean that lists a variable, with what it lists TIED to the program's text (the seventh form; the later family's looks); each row that meets fmt, with fmt's text TOLD by the authors' own Lean function (tested against real Go, not proved from fmt's source: count such statements apart). THE CARD IS WHAT COUNTS. Prove the row's statement (the work); the ties are given (YtokbolgaokbdcaaDoorTie.lean); close each card by the builder's one call (the guide's Derived/Test/ToyasCard.lean, 'card_holds'). Laid BY PROGRAM, IN A SANDBOX (cutbox-door.mjs). By AI agents, Wed Nov 11 2026. No macro, syntax, notation, axiom, sorry.
-/
import Derived.Test.YtokbolgaokbdcaaDoorRows
import GoSem.ClaimSeven
namespace Go.Proofs.YtokbolgaokbdcaaDoor
namespace Rows

/-- THE TIED CARD OF 'laws.FnExactCountParsings'. -/
def fnExactCountParsingsCard : Claim7 := { stood := { row := fnExactCountParsingsRow, standIns := [], harness := (true, "56469cbd38c5ec8bf213a75d5add6e4f3bf7308d6ba256611bccc5614cc1bd89"), looks := false }, kinds := [], alts := [], laidByText := true, laidKinds := [.data, .pinned], laidTests := true, laidLooks := .later }
def FnExactCountParsingsCardSaid : Prop := Claim7.holds Tryd.pinned (.plain (OpenSpec.ofChange fnExactCountParsingsSpec)) fnExactCountParsingsCard

/-- THE TIED CARD OF 'laws.FnExactFirstParsing'. -/
def fnExactFirstParsingCard : Claim7 := { stood := { row := fnExactFirstParsingRow, standIns := [], harness := (true, "56469cbd38c5ec8bf213a75d5add6e4f3bf7308d6ba256611bccc5614cc1bd89"), looks := false }, kinds := [], alts := [], laidByText := true, laidKinds := [.data, .pinned], laidTests := true, laidLooks := .later }
def FnExactFirstParsingCardSaid : Prop := Claim7.holds Tryd.pinned (.plain (OpenSpec.ofChange fnExactFirstParsingSpec)) fnExactFirstParsingCard

/-- THE TIED CARD OF 'laws.FnExactIsRecovered'. -/
def fnExactIsRecoveredCard : Claim7 := { stood := { row := fnExactIsRecoveredRow, standIns := [], harness := (true, "56469cbd38c5ec8bf213a75d5add6e4f3bf7308d6ba256611bccc5614cc1bd89"), looks := false }, kinds := [], alts := [], laidByText := true, laidKinds := [.data, .pinned], laidTests := true, laidLooks := .later }
def FnExactIsRecoveredCardSaid : Prop := Claim7.holds Tryd.pinned (.plain (OpenSpec.ofChange fnExactIsRecoveredSpec)) fnExactIsRecoveredCard

/-- THE TIED CARD OF 'laws.FnExactDecodeText'. -/
def fnExactDecodeTextCard : Claim7 := { stood := { row := fnExactDecodeTextRow, standIns := [], harness := (true, "56469cbd38c5ec8bf213a75d5add6e4f3bf7308d6ba256611bccc5614cc1bd89"), looks := false }, kinds := [], alts := [], laidByText := true, laidKinds := [.data, .pinned], laidTests := true, laidLooks := .later }
def FnExactDecodeTextCardSaid : Prop := Claim7.holds Tryd.pinned (.plain (OpenSpec.ofChange fnExactDecodeTextSpec)) fnExactDecodeTextCard

/-- THE TIED CARD OF 'laws.FnParsings'. -/
def fnParsingsCard : Claim7 := { stood := { row := fnParsingsRow, standIns := [], harness := (true, "56469cbd38c5ec8bf213a75d5add6e4f3bf7308d6ba256611bccc5614cc1bd89"), looks := false }, kinds := [], alts := [], laidByText := true, laidKinds := [.data, .pinned], laidTests := true, laidLooks := .later }
def FnParsingsCardSaid : Prop := Claim7.holds Tryd.pinned (.plain (OpenSpec.ofChange fnParsingsSpec)) fnParsingsCard

/-- THE SECOND FORM's CARD OF 'laws.FnExactCountParsings'. -/
def fnExactCountParsingsUptoCard : Claim7 := { stood := { row := fnExactCountParsingsUptoRow, standIns := [], harness := (true, "56469cbd38c5ec8bf213a75d5add6e4f3bf7308d6ba256611bccc5614cc1bd89"), looks := false }, kinds := [], alts := [], laidByText := true, laidKinds := [.data, .pinned], laidTests := true, laidLooks := .later }
def FnExactCountParsingsUptoCardSaid : Prop := Claim7.holds Tryd.pinned (.plain (OpenSpec.upto fnExactCountParsingsSpec)) fnExactCountParsingsUptoCard

/-- THE SECOND FORM's CARD OF 'laws.FnExactFirstParsing'. -/
def fnExactFirstParsingUptoCard : Claim7 := { stood := { row := fnExactFirstParsingUptoRow, standIns := [], harness := (true, "56469cbd38c5ec8bf213a75d5add6e4f3bf7308d6ba256611bccc5614cc1bd89"), looks := false }, kinds := [], alts := [], laidByText := true, laidKinds := [.data, .pinned], laidTests := true, laidLooks := .later }
def FnExactFirstParsingUptoCardSaid : Prop := Claim7.holds Tryd.pinned (.plain (OpenSpec.upto fnExactFirstParsingSpec)) fnExactFirstParsingUptoCard

/-- THE SECOND FORM's CARD OF 'laws.FnExactIsRecovered'. -/
def fnExactIsRecoveredUptoCard : Claim7 := { stood := { row := fnExactIsRecoveredUptoRow, standIns := [], harness := (true, "56469cbd38c5ec8bf213a75d5add6e4f3bf7308d6ba256611bccc5614cc1bd89"), looks := false }, kinds := [], alts := [], laidByText := true, laidKinds := [.data, .pinned], laidTests := true, laidLooks := .later }
def FnExactIsRecoveredUptoCardSaid : Prop := Claim7.holds Tryd.pinned (.plain (OpenSpec.upto fnExactIsRecoveredSpec)) fnExactIsRecoveredUptoCard

/-- THE SECOND FORM's CARD OF 'laws.FnExactDecodeText'. -/
def fnExactDecodeTextUptoCard : Claim7 := { stood := { row := fnExactDecodeTextUptoRow, standIns := [], harness := (true, "56469cbd38c5ec8bf213a75d5add6e4f3bf7308d6ba256611bccc5614cc1bd89"), looks := false }, kinds := [], alts := [], laidByText := true, laidKinds := [.data, .pinned], laidTests := true, laidLooks := .later }
def FnExactDecodeTextUptoCardSaid : Prop := Claim7.holds Tryd.pinned (.plain (OpenSpec.upto fnExactDecodeTextSpec)) fnExactDecodeTextUptoCard

/-- THE SECOND FORM's CARD OF 'laws.FnParsings'. -/
def fnParsingsUptoCard : Claim7 := { stood := { row := fnParsingsUptoRow, standIns := [], harness := (true, "56469cbd38c5ec8bf213a75d5add6e4f3bf7308d6ba256611bccc5614cc1bd89"), looks := false }, kinds := [], alts := [], laidByText := true, laidKinds := [.data, .pinned], laidTests := true, laidLooks := .later }
def FnParsingsUptoCardSaid : Prop := Claim7.holds Tryd.pinned (.plain (OpenSpec.upto fnParsingsSpec)) fnParsingsUptoCard
end Rows
end Go.Proofs.YtokbolgaokbdcaaDoor
