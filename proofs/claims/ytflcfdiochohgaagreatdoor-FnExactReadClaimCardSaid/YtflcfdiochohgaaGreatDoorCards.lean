/-
  DERIVED. GIVEN WITH THE SEED: THE CARDS: each row of YtflcfdiochohgaaGreatDoorRows.lean that lists a variable, with what it lists TIED to the program's text (the seventh form; the later family's looks); each row that meets fmt, with fmt's text TOLD by the authors' own Lean function (tested against real Go, not proved from fmt's source: count such statements apart). THE CARD IS WHAT COUNTS. Prove the row's statement (the work); the ties are given (YtflcfdiochohgaaGreatDoorTie.lean); close each card by the builder's one call (the guide's Derived/Test/ToyasCard.lean, 'card_holds'). Laid BY PROGRAM, IN A SANDBOX (cutbox-door.mjs). By AI agents, Wed Nov 11 2026. No macro, syntax, notation, axiom, sorry.
-/
import Derived.Test.YtflcfdiochohgaaGreatDoorRows
import GoSem.ClaimSeven
namespace Go.Proofs.YtflcfdiochohgaaGreatDoor
namespace Rows

/-- THE TIED CARD OF 'laws.FnContradictions'. -/
def fnContradictionsCard : Claim7 := { stood := { row := fnContradictionsRow, standIns := [], harness := (true, "659b7c5bb454daa9cb47c77b2a47dd68a0599cb4c50ef5809938054505dee88c"), looks := true }, kinds := [], alts := [], laidByText := true, laidKinds := [.data, .pinned], laidTests := true, laidLooks := .later }
def FnContradictionsCardSaid : Prop := Claim7.holds Tryz.pinned (.plain (OpenSpec.ofChange fnContradictionsSpec)) fnContradictionsCard

/-- THE TIED CARD OF 'laws.FnRepairs'. -/
def fnRepairsCard : Claim7 := { stood := { row := fnRepairsRow, standIns := [], harness := (true, "659b7c5bb454daa9cb47c77b2a47dd68a0599cb4c50ef5809938054505dee88c"), looks := true }, kinds := [], alts := [], laidByText := true, laidKinds := [.data, .pinned], laidTests := true, laidLooks := .later }
def FnRepairsCardSaid : Prop := Claim7.holds Tryz.pinned (.plain (OpenSpec.ofChange fnRepairsSpec)) fnRepairsCard

/-- THE TIED CARD OF 'laws.FnCores'. -/
def fnCoresCard : Claim7 := { stood := { row := fnCoresRow, standIns := [], harness := (true, "659b7c5bb454daa9cb47c77b2a47dd68a0599cb4c50ef5809938054505dee88c"), looks := true }, kinds := [], alts := [], laidByText := true, laidKinds := [.data, .pinned], laidTests := true, laidLooks := .later }
def FnCoresCardSaid : Prop := Claim7.holds Tryz.pinned (.plain (OpenSpec.ofChange fnCoresSpec)) fnCoresCard

/-- THE TIED CARD OF 'laws.FnSources'. -/
def fnSourcesCard : Claim7 := { stood := { row := fnSourcesRow, standIns := [], harness := (true, "659b7c5bb454daa9cb47c77b2a47dd68a0599cb4c50ef5809938054505dee88c"), looks := true }, kinds := [], alts := [], laidByText := true, laidKinds := [.data, .pinned], laidTests := true, laidLooks := .later }
def FnSourcesCardSaid : Prop := Claim7.holds Tryz.pinned (.plain (OpenSpec.ofChange fnSourcesSpec)) fnSourcesCard

/-- THE TIED CARD OF 'laws.FnExactReadClaim'. -/
def fnExactReadClaimCard : Claim7 := { stood := { row := fnExactReadClaimRow, standIns := [], harness := (true, "659b7c5bb454daa9cb47c77b2a47dd68a0599cb4c50ef5809938054505dee88c"), looks := true }, kinds := [], alts := [], laidByText := true, laidKinds := [.data, .data, .data, .data, .sentinel, .sentinel, .pinned], laidTests := true, laidLooks := .later }
def FnExactReadClaimCardSaid : Prop := Claim7.holds Tryz.pinned (.plain (OpenSpec.ofChange fnExactReadClaimSpec)) fnExactReadClaimCard

/-- THE TIED CARD OF 'laws.FnClaimTexts'. -/
def fnClaimTextsCard : Claim7 := { stood := { row := fnClaimTextsRow, standIns := [], harness := (true, "659b7c5bb454daa9cb47c77b2a47dd68a0599cb4c50ef5809938054505dee88c"), looks := true }, kinds := [], alts := [], laidByText := true, laidKinds := [.data, .data, .data, .data, .sentinel, .sentinel, .pinned], laidTests := true, laidLooks := .later }
def FnClaimTextsCardSaid : Prop := Claim7.holds Tryz.pinned (.plain (OpenSpec.ofChange fnClaimTextsSpec)) fnClaimTextsCard

/-- THE SECOND FORM's CARD OF 'laws.FnContradictions'. -/
def fnContradictionsUptoCard : Claim7 := { stood := { row := fnContradictionsUptoRow, standIns := [], harness := (true, "659b7c5bb454daa9cb47c77b2a47dd68a0599cb4c50ef5809938054505dee88c"), looks := true }, kinds := [], alts := [], laidByText := true, laidKinds := [.data, .pinned], laidTests := true, laidLooks := .later }
def FnContradictionsUptoCardSaid : Prop := Claim7.holds Tryz.pinned (.plain (OpenSpec.upto fnContradictionsSpec)) fnContradictionsUptoCard

/-- THE SECOND FORM's CARD OF 'laws.FnRepairs'. -/
def fnRepairsUptoCard : Claim7 := { stood := { row := fnRepairsUptoRow, standIns := [], harness := (true, "659b7c5bb454daa9cb47c77b2a47dd68a0599cb4c50ef5809938054505dee88c"), looks := true }, kinds := [], alts := [], laidByText := true, laidKinds := [.data, .pinned], laidTests := true, laidLooks := .later }
def FnRepairsUptoCardSaid : Prop := Claim7.holds Tryz.pinned (.plain (OpenSpec.upto fnRepairsSpec)) fnRepairsUptoCard

/-- THE SECOND FORM's CARD OF 'laws.FnCores'. -/
def fnCoresUptoCard : Claim7 := { stood := { row := fnCoresUptoRow, standIns := [], harness := (true, "659b7c5bb454daa9cb47c77b2a47dd68a0599cb4c50ef5809938054505dee88c"), looks := true }, kinds := [], alts := [], laidByText := true, laidKinds := [.data, .pinned], laidTests := true, laidLooks := .later }
def FnCoresUptoCardSaid : Prop := Claim7.holds Tryz.pinned (.plain (OpenSpec.upto fnCoresSpec)) fnCoresUptoCard

/-- THE SECOND FORM's CARD OF 'laws.FnSources'. -/
def fnSourcesUptoCard : Claim7 := { stood := { row := fnSourcesUptoRow, standIns := [], harness := (true, "659b7c5bb454daa9cb47c77b2a47dd68a0599cb4c50ef5809938054505dee88c"), looks := true }, kinds := [], alts := [], laidByText := true, laidKinds := [.data, .pinned], laidTests := true, laidLooks := .later }
def FnSourcesUptoCardSaid : Prop := Claim7.holds Tryz.pinned (.plain (OpenSpec.upto fnSourcesSpec)) fnSourcesUptoCard

/-- THE SECOND FORM's CARD OF 'laws.FnExactReadClaim'. -/
def fnExactReadClaimUptoCard : Claim7 := { stood := { row := fnExactReadClaimUptoRow, standIns := [], harness := (true, "659b7c5bb454daa9cb47c77b2a47dd68a0599cb4c50ef5809938054505dee88c"), looks := true }, kinds := [], alts := [], laidByText := true, laidKinds := [.data, .data, .data, .data, .sentinel, .sentinel, .pinned], laidTests := true, laidLooks := .later }
def FnExactReadClaimUptoCardSaid : Prop := Claim7.holds Tryz.pinned (.plain (OpenSpec.upto fnExactReadClaimSpec)) fnExactReadClaimUptoCard

/-- THE SECOND FORM's CARD OF 'laws.FnClaimTexts'. -/
def fnClaimTextsUptoCard : Claim7 := { stood := { row := fnClaimTextsUptoRow, standIns := [], harness := (true, "659b7c5bb454daa9cb47c77b2a47dd68a0599cb4c50ef5809938054505dee88c"), looks := true }, kinds := [], alts := [], laidByText := true, laidKinds := [.data, .data, .data, .data, .sentinel, .sentinel, .pinned], laidTests := true, laidLooks := .later }
def FnClaimTextsUptoCardSaid : Prop := Claim7.holds Tryz.pinned (.plain (OpenSpec.upto fnClaimTextsSpec)) fnClaimTextsUptoCard
end Rows
end Go.Proofs.YtflcfdiochohgaaGreatDoor
