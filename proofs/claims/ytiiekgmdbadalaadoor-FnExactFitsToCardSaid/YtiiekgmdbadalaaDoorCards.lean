/-
  DERIVED. GIVEN WITH THE SEED: THE CARDS: each row of YtiiekgmdbadalaaDoorRows.lean that lists a variable, with what it lists TIED to the program's text (the seventh form; the later family's looks); each row that meets fmt, with fmt's text TOLD by the authors' own Lean function (tested against real Go, not proved from fmt's source: count such statements apart). THE CARD IS WHAT COUNTS. Prove the row's statement (the work); the ties are given (YtiiekgmdbadalaaDoorTie.lean); close each card by the builder's one call (the guide's Derived/Test/ToyasCard.lean, 'card_holds'). Laid BY PROGRAM, IN A SANDBOX (cutbox-door.mjs). By AI agents, Wed Nov 11 2026. No macro, syntax, notation, axiom, sorry.
-/
import Derived.Test.YtiiekgmdbadalaaDoorRows
import GoSem.ClaimSeven
namespace Go.Proofs.YtiiekgmdbadalaaDoor
namespace Rows

/-- THE TIED CARD OF 'laws.FnExactIsFact'. -/
def fnExactIsFactCard : Claim7 := { stood := { row := fnExactIsFactRow, standIns := [], harness := (true, "380573dc67c67e2015868783f821e84919ef25b2323737331e6e663d118444e4"), looks := false }, kinds := [], alts := [], laidByText := true, laidKinds := [.data, .pinned], laidTests := true, laidLooks := .later }
def FnExactIsFactCardSaid : Prop := Claim7.holds Tryd.pinned (.plain (OpenSpec.ofChange fnExactIsFactSpec)) fnExactIsFactCard

/-- THE TIED CARD OF 'laws.FnExactIsClaim'. -/
def fnExactIsClaimCard : Claim7 := { stood := { row := fnExactIsClaimRow, standIns := [], harness := (true, "380573dc67c67e2015868783f821e84919ef25b2323737331e6e663d118444e4"), looks := false }, kinds := [], alts := [], laidByText := true, laidKinds := [.data, .pinned], laidTests := true, laidLooks := .later }
def FnExactIsClaimCardSaid : Prop := Claim7.holds Tryd.pinned (.plain (OpenSpec.ofChange fnExactIsClaimSpec)) fnExactIsClaimCard

/-- THE TIED CARD OF 'laws.FnExactDoContradict'. -/
def fnExactDoContradictCard : Claim7 := { stood := { row := fnExactDoContradictRow, standIns := [], harness := (true, "380573dc67c67e2015868783f821e84919ef25b2323737331e6e663d118444e4"), looks := false }, kinds := [], alts := [], laidByText := true, laidKinds := [.data, .pinned], laidTests := true, laidLooks := .later }
def FnExactDoContradictCardSaid : Prop := Claim7.holds Tryd.pinned (.plain (OpenSpec.ofChange fnExactDoContradictSpec)) fnExactDoContradictCard

/-- THE TIED CARD OF 'laws.FnExactAreClaims'. -/
def fnExactAreClaimsCard : Claim7 := { stood := { row := fnExactAreClaimsRow, standIns := [], harness := (true, "380573dc67c67e2015868783f821e84919ef25b2323737331e6e663d118444e4"), looks := false }, kinds := [], alts := [], laidByText := true, laidKinds := [.data, .pinned], laidTests := true, laidLooks := .later }
def FnExactAreClaimsCardSaid : Prop := Claim7.holds Tryd.pinned (.plain (OpenSpec.ofChange fnExactAreClaimsSpec)) fnExactAreClaimsCard

/-- THE TIED CARD OF 'laws.FnExactWeightOf'. -/
def fnExactWeightOfCard : Claim7 := { stood := { row := fnExactWeightOfRow, standIns := [], harness := (true, "380573dc67c67e2015868783f821e84919ef25b2323737331e6e663d118444e4"), looks := false }, kinds := [], alts := [], laidByText := true, laidKinds := [.data, .pinned], laidTests := true, laidLooks := .later }
def FnExactWeightOfCardSaid : Prop := Claim7.holds Tryd.pinned (.plain (OpenSpec.ofChange fnExactWeightOfSpec)) fnExactWeightOfCard

/-- THE TIED CARD OF 'laws.FnExactClaimsAbout'. -/
def fnExactClaimsAboutCard : Claim7 := { stood := { row := fnExactClaimsAboutRow, standIns := [], harness := (true, "380573dc67c67e2015868783f821e84919ef25b2323737331e6e663d118444e4"), looks := false }, kinds := [], alts := [], laidByText := true, laidKinds := [.data, .pinned], laidTests := true, laidLooks := .later }
def FnExactClaimsAboutCardSaid : Prop := Claim7.holds Tryd.pinned (.plain (OpenSpec.ofChange fnExactClaimsAboutSpec)) fnExactClaimsAboutCard

/-- THE TIED CARD OF 'laws.FnExactContradictionsOf'. -/
def fnExactContradictionsOfCard : Claim7 := { stood := { row := fnExactContradictionsOfRow, standIns := [], harness := (true, "380573dc67c67e2015868783f821e84919ef25b2323737331e6e663d118444e4"), looks := false }, kinds := [], alts := [], laidByText := true, laidKinds := [.data, .pinned], laidTests := true, laidLooks := .later }
def FnExactContradictionsOfCardSaid : Prop := Claim7.holds Tryd.pinned (.plain (OpenSpec.ofChange fnExactContradictionsOfSpec)) fnExactContradictionsOfCard

/-- THE TIED CARD OF 'laws.FnExactPairsOf'. -/
def fnExactPairsOfCard : Claim7 := { stood := { row := fnExactPairsOfRow, standIns := [], harness := (true, "380573dc67c67e2015868783f821e84919ef25b2323737331e6e663d118444e4"), looks := false }, kinds := [], alts := [], laidByText := true, laidKinds := [.data, .pinned], laidTests := true, laidLooks := .later }
def FnExactPairsOfCardSaid : Prop := Claim7.holds Tryd.pinned (.plain (OpenSpec.ofChange fnExactPairsOfSpec)) fnExactPairsOfCard

/-- THE TIED CARD OF 'laws.FnExactAreConsistent'. -/
def fnExactAreConsistentCard : Claim7 := { stood := { row := fnExactAreConsistentRow, standIns := [], harness := (true, "380573dc67c67e2015868783f821e84919ef25b2323737331e6e663d118444e4"), looks := false }, kinds := [], alts := [], laidByText := true, laidKinds := [.data, .pinned], laidTests := true, laidLooks := .later }
def FnExactAreConsistentCardSaid : Prop := Claim7.holds Tryd.pinned (.plain (OpenSpec.ofChange fnExactAreConsistentSpec)) fnExactAreConsistentCard

/-- THE TIED CARD OF 'laws.FnExactCircleIn'. -/
def fnExactCircleInCard : Claim7 := { stood := { row := fnExactCircleInRow, standIns := [], harness := (true, "380573dc67c67e2015868783f821e84919ef25b2323737331e6e663d118444e4"), looks := false }, kinds := [], alts := [], laidByText := true, laidKinds := [.data, .pinned], laidTests := true, laidLooks := .later }
def FnExactCircleInCardSaid : Prop := Claim7.holds Tryd.pinned (.plain (OpenSpec.ofChange fnExactCircleInSpec)) fnExactCircleInCard

/-- THE TIED CARD OF 'laws.FnExactFitsTo'. -/
def fnExactFitsToCard : Claim7 := { stood := { row := fnExactFitsToRow, standIns := [], harness := (true, "380573dc67c67e2015868783f821e84919ef25b2323737331e6e663d118444e4"), looks := false }, kinds := [], alts := [], laidByText := true, laidKinds := [.data, .pinned], laidTests := true, laidLooks := .later }
def FnExactFitsToCardSaid : Prop := Claim7.holds Tryd.pinned (.plain (OpenSpec.ofChange fnExactFitsToSpec)) fnExactFitsToCard

/-- THE TIED CARD OF 'laws.FnExactKeptClaims'. -/
def fnExactKeptClaimsCard : Claim7 := { stood := { row := fnExactKeptClaimsRow, standIns := [], harness := (true, "380573dc67c67e2015868783f821e84919ef25b2323737331e6e663d118444e4"), looks := false }, kinds := [], alts := [], laidByText := true, laidKinds := [.data, .pinned], laidTests := true, laidLooks := .later }
def FnExactKeptClaimsCardSaid : Prop := Claim7.holds Tryd.pinned (.plain (OpenSpec.ofChange fnExactKeptClaimsSpec)) fnExactKeptClaimsCard

/-- THE SECOND FORM's CARD OF 'laws.FnExactIsFact'. -/
def fnExactIsFactUptoCard : Claim7 := { stood := { row := fnExactIsFactUptoRow, standIns := [], harness := (true, "380573dc67c67e2015868783f821e84919ef25b2323737331e6e663d118444e4"), looks := false }, kinds := [], alts := [], laidByText := true, laidKinds := [.data, .pinned], laidTests := true, laidLooks := .later }
def FnExactIsFactUptoCardSaid : Prop := Claim7.holds Tryd.pinned (.plain (OpenSpec.upto fnExactIsFactSpec)) fnExactIsFactUptoCard

/-- THE SECOND FORM's CARD OF 'laws.FnExactIsClaim'. -/
def fnExactIsClaimUptoCard : Claim7 := { stood := { row := fnExactIsClaimUptoRow, standIns := [], harness := (true, "380573dc67c67e2015868783f821e84919ef25b2323737331e6e663d118444e4"), looks := false }, kinds := [], alts := [], laidByText := true, laidKinds := [.data, .pinned], laidTests := true, laidLooks := .later }
def FnExactIsClaimUptoCardSaid : Prop := Claim7.holds Tryd.pinned (.plain (OpenSpec.upto fnExactIsClaimSpec)) fnExactIsClaimUptoCard

/-- THE SECOND FORM's CARD OF 'laws.FnExactDoContradict'. -/
def fnExactDoContradictUptoCard : Claim7 := { stood := { row := fnExactDoContradictUptoRow, standIns := [], harness := (true, "380573dc67c67e2015868783f821e84919ef25b2323737331e6e663d118444e4"), looks := false }, kinds := [], alts := [], laidByText := true, laidKinds := [.data, .pinned], laidTests := true, laidLooks := .later }
def FnExactDoContradictUptoCardSaid : Prop := Claim7.holds Tryd.pinned (.plain (OpenSpec.upto fnExactDoContradictSpec)) fnExactDoContradictUptoCard

/-- THE SECOND FORM's CARD OF 'laws.FnExactAreClaims'. -/
def fnExactAreClaimsUptoCard : Claim7 := { stood := { row := fnExactAreClaimsUptoRow, standIns := [], harness := (true, "380573dc67c67e2015868783f821e84919ef25b2323737331e6e663d118444e4"), looks := false }, kinds := [], alts := [], laidByText := true, laidKinds := [.data, .pinned], laidTests := true, laidLooks := .later }
def FnExactAreClaimsUptoCardSaid : Prop := Claim7.holds Tryd.pinned (.plain (OpenSpec.upto fnExactAreClaimsSpec)) fnExactAreClaimsUptoCard

/-- THE SECOND FORM's CARD OF 'laws.FnExactWeightOf'. -/
def fnExactWeightOfUptoCard : Claim7 := { stood := { row := fnExactWeightOfUptoRow, standIns := [], harness := (true, "380573dc67c67e2015868783f821e84919ef25b2323737331e6e663d118444e4"), looks := false }, kinds := [], alts := [], laidByText := true, laidKinds := [.data, .pinned], laidTests := true, laidLooks := .later }
def FnExactWeightOfUptoCardSaid : Prop := Claim7.holds Tryd.pinned (.plain (OpenSpec.upto fnExactWeightOfSpec)) fnExactWeightOfUptoCard

/-- THE SECOND FORM's CARD OF 'laws.FnExactClaimsAbout'. -/
def fnExactClaimsAboutUptoCard : Claim7 := { stood := { row := fnExactClaimsAboutUptoRow, standIns := [], harness := (true, "380573dc67c67e2015868783f821e84919ef25b2323737331e6e663d118444e4"), looks := false }, kinds := [], alts := [], laidByText := true, laidKinds := [.data, .pinned], laidTests := true, laidLooks := .later }
def FnExactClaimsAboutUptoCardSaid : Prop := Claim7.holds Tryd.pinned (.plain (OpenSpec.upto fnExactClaimsAboutSpec)) fnExactClaimsAboutUptoCard

/-- THE SECOND FORM's CARD OF 'laws.FnExactContradictionsOf'. -/
def fnExactContradictionsOfUptoCard : Claim7 := { stood := { row := fnExactContradictionsOfUptoRow, standIns := [], harness := (true, "380573dc67c67e2015868783f821e84919ef25b2323737331e6e663d118444e4"), looks := false }, kinds := [], alts := [], laidByText := true, laidKinds := [.data, .pinned], laidTests := true, laidLooks := .later }
def FnExactContradictionsOfUptoCardSaid : Prop := Claim7.holds Tryd.pinned (.plain (OpenSpec.upto fnExactContradictionsOfSpec)) fnExactContradictionsOfUptoCard

/-- THE SECOND FORM's CARD OF 'laws.FnExactPairsOf'. -/
def fnExactPairsOfUptoCard : Claim7 := { stood := { row := fnExactPairsOfUptoRow, standIns := [], harness := (true, "380573dc67c67e2015868783f821e84919ef25b2323737331e6e663d118444e4"), looks := false }, kinds := [], alts := [], laidByText := true, laidKinds := [.data, .pinned], laidTests := true, laidLooks := .later }
def FnExactPairsOfUptoCardSaid : Prop := Claim7.holds Tryd.pinned (.plain (OpenSpec.upto fnExactPairsOfSpec)) fnExactPairsOfUptoCard

/-- THE SECOND FORM's CARD OF 'laws.FnExactAreConsistent'. -/
def fnExactAreConsistentUptoCard : Claim7 := { stood := { row := fnExactAreConsistentUptoRow, standIns := [], harness := (true, "380573dc67c67e2015868783f821e84919ef25b2323737331e6e663d118444e4"), looks := false }, kinds := [], alts := [], laidByText := true, laidKinds := [.data, .pinned], laidTests := true, laidLooks := .later }
def FnExactAreConsistentUptoCardSaid : Prop := Claim7.holds Tryd.pinned (.plain (OpenSpec.upto fnExactAreConsistentSpec)) fnExactAreConsistentUptoCard

/-- THE SECOND FORM's CARD OF 'laws.FnExactCircleIn'. -/
def fnExactCircleInUptoCard : Claim7 := { stood := { row := fnExactCircleInUptoRow, standIns := [], harness := (true, "380573dc67c67e2015868783f821e84919ef25b2323737331e6e663d118444e4"), looks := false }, kinds := [], alts := [], laidByText := true, laidKinds := [.data, .pinned], laidTests := true, laidLooks := .later }
def FnExactCircleInUptoCardSaid : Prop := Claim7.holds Tryd.pinned (.plain (OpenSpec.upto fnExactCircleInSpec)) fnExactCircleInUptoCard

/-- THE SECOND FORM's CARD OF 'laws.FnExactFitsTo'. -/
def fnExactFitsToUptoCard : Claim7 := { stood := { row := fnExactFitsToUptoRow, standIns := [], harness := (true, "380573dc67c67e2015868783f821e84919ef25b2323737331e6e663d118444e4"), looks := false }, kinds := [], alts := [], laidByText := true, laidKinds := [.data, .pinned], laidTests := true, laidLooks := .later }
def FnExactFitsToUptoCardSaid : Prop := Claim7.holds Tryd.pinned (.plain (OpenSpec.upto fnExactFitsToSpec)) fnExactFitsToUptoCard

/-- THE SECOND FORM's CARD OF 'laws.FnExactKeptClaims'. -/
def fnExactKeptClaimsUptoCard : Claim7 := { stood := { row := fnExactKeptClaimsUptoRow, standIns := [], harness := (true, "380573dc67c67e2015868783f821e84919ef25b2323737331e6e663d118444e4"), looks := false }, kinds := [], alts := [], laidByText := true, laidKinds := [.data, .pinned], laidTests := true, laidLooks := .later }
def FnExactKeptClaimsUptoCardSaid : Prop := Claim7.holds Tryd.pinned (.plain (OpenSpec.upto fnExactKeptClaimsSpec)) fnExactKeptClaimsUptoCard
end Rows
end Go.Proofs.YtiiekgmdbadalaaDoor
