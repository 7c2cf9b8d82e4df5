/-
  DERIVED. GIVEN WITH THE SEED: THE CARDS: each row of YtcpddgkloeklaaaGreatDoorRows.lean that lists a variable, with what it lists TIED to the program's text (the seventh form; the later family's looks); each row that meets fmt, with fmt's text TOLD by the authors' own Lean function (tested against real Go, not proved from fmt's source: count such statements apart). THE CARD IS WHAT COUNTS. Prove the row's statement (the work); the ties are given (YtcpddgkloeklaaaGreatDoorTie.lean); close each card by the builder's one call (the guide's Derived/Test/ToyasCard.lean, 'card_holds'). Laid BY PROGRAM, IN A SANDBOX (cutbox-door.mjs). By AI agents, Wed Nov 11 2026. No macro, syntax, notation, axiom, sorry.
-/
import Derived.Test.YtcpddgkloeklaaaGreatDoorRows
import GoSem.ClaimSeven
namespace Go.Proofs.YtcpddgkloeklaaaGreatDoor
namespace Rows

/-- THE TIED CARD OF 'laws.FnExactIsMinimalRepair'. -/
def fnExactIsMinimalRepairCard : Claim7 := { stood := { row := fnExactIsMinimalRepairRow, standIns := [], harness := (true, "2e5a982b1d25a66df28b991e7ab48c79e6d639cfd68fdf1839cd5190620f02c0"), looks := false }, kinds := [], alts := [], laidByText := true, laidKinds := [.data, .pinned], laidTests := true, laidLooks := .later }
def FnExactIsMinimalRepairCardSaid : Prop := Claim7.holds Tryz.pinned (.plain (OpenSpec.ofChange fnExactIsMinimalRepairSpec)) fnExactIsMinimalRepairCard

/-- THE TIED CARD OF 'laws.FnExactCoreWithin'. -/
def fnExactCoreWithinCard : Claim7 := { stood := { row := fnExactCoreWithinRow, standIns := [], harness := (true, "2e5a982b1d25a66df28b991e7ab48c79e6d639cfd68fdf1839cd5190620f02c0"), looks := false }, kinds := [], alts := [], laidByText := true, laidKinds := [.data, .pinned], laidTests := true, laidLooks := .later }
def FnExactCoreWithinCardSaid : Prop := Claim7.holds Tryz.pinned (.plain (OpenSpec.ofChange fnExactCoreWithinSpec)) fnExactCoreWithinCard

/-- THE TIED CARD OF 'laws.FnExactShrinkRepair'. -/
def fnExactShrinkRepairCard : Claim7 := { stood := { row := fnExactShrinkRepairRow, standIns := [], harness := (true, "2e5a982b1d25a66df28b991e7ab48c79e6d639cfd68fdf1839cd5190620f02c0"), looks := false }, kinds := [], alts := [], laidByText := true, laidKinds := [.data, .pinned], laidTests := true, laidLooks := .later }
def FnExactShrinkRepairCardSaid : Prop := Claim7.holds Tryz.pinned (.plain (OpenSpec.ofChange fnExactShrinkRepairSpec)) fnExactShrinkRepairCard

/-- THE TIED CARD OF 'laws.FnExactSourcesOf'. -/
def fnExactSourcesOfCard : Claim7 := { stood := { row := fnExactSourcesOfRow, standIns := [], harness := (true, "2e5a982b1d25a66df28b991e7ab48c79e6d639cfd68fdf1839cd5190620f02c0"), looks := false }, kinds := [], alts := [], laidByText := true, laidKinds := [.data, .pinned], laidTests := true, laidLooks := .later }
def FnExactSourcesOfCardSaid : Prop := Claim7.holds Tryz.pinned (.plain (OpenSpec.ofChange fnExactSourcesOfSpec)) fnExactSourcesOfCard

/-- THE TIED CARD OF 'laws.FnExactLeastRemoved'. -/
def fnExactLeastRemovedCard : Claim7 := { stood := { row := fnExactLeastRemovedRow, standIns := [], harness := (true, "2e5a982b1d25a66df28b991e7ab48c79e6d639cfd68fdf1839cd5190620f02c0"), looks := false }, kinds := [], alts := [], laidByText := true, laidKinds := [.data, .pinned], laidTests := true, laidLooks := .later }
def FnExactLeastRemovedCardSaid : Prop := Claim7.holds Tryz.pinned (.plain (OpenSpec.ofChange fnExactLeastRemovedSpec)) fnExactLeastRemovedCard

/-- THE TIED CARD OF 'laws.FnExactInCores'. -/
def fnExactInCoresCard : Claim7 := { stood := { row := fnExactInCoresRow, standIns := [], harness := (true, "2e5a982b1d25a66df28b991e7ab48c79e6d639cfd68fdf1839cd5190620f02c0"), looks := false }, kinds := [], alts := [], laidByText := true, laidKinds := [.data, .pinned], laidTests := true, laidLooks := .later }
def FnExactInCoresCardSaid : Prop := Claim7.holds Tryz.pinned (.plain (OpenSpec.ofChange fnExactInCoresSpec)) fnExactInCoresCard

/-- THE TIED CARD OF 'laws.FnExactCoresOf'. -/
def fnExactCoresOfCard : Claim7 := { stood := { row := fnExactCoresOfRow, standIns := [], harness := (true, "2e5a982b1d25a66df28b991e7ab48c79e6d639cfd68fdf1839cd5190620f02c0"), looks := false }, kinds := [], alts := [], laidByText := true, laidKinds := [.data, .pinned], laidTests := true, laidLooks := .later }
def FnExactCoresOfCardSaid : Prop := Claim7.holds Tryz.pinned (.plain (OpenSpec.ofChange fnExactCoresOfSpec)) fnExactCoresOfCard

/-- THE TIED CARD OF 'laws.FnExactSmallestCore'. -/
def fnExactSmallestCoreCard : Claim7 := { stood := { row := fnExactSmallestCoreRow, standIns := [], harness := (true, "2e5a982b1d25a66df28b991e7ab48c79e6d639cfd68fdf1839cd5190620f02c0"), looks := false }, kinds := [], alts := [], laidByText := true, laidKinds := [.data, .pinned], laidTests := true, laidLooks := .later }
def FnExactSmallestCoreCardSaid : Prop := Claim7.holds Tryz.pinned (.plain (OpenSpec.ofChange fnExactSmallestCoreSpec)) fnExactSmallestCoreCard

/-- THE TIED CARD OF 'laws.FnExactAlwaysKept'. -/
def fnExactAlwaysKeptCard : Claim7 := { stood := { row := fnExactAlwaysKeptRow, standIns := [], harness := (true, "2e5a982b1d25a66df28b991e7ab48c79e6d639cfd68fdf1839cd5190620f02c0"), looks := false }, kinds := [], alts := [], laidByText := true, laidKinds := [.data, .pinned], laidTests := true, laidLooks := .later }
def FnExactAlwaysKeptCardSaid : Prop := Claim7.holds Tryz.pinned (.plain (OpenSpec.ofChange fnExactAlwaysKeptSpec)) fnExactAlwaysKeptCard

/-- THE TIED CARD OF 'laws.FnExactMinimalRepairs'. -/
def fnExactMinimalRepairsCard : Claim7 := { stood := { row := fnExactMinimalRepairsRow, standIns := [], harness := (true, "2e5a982b1d25a66df28b991e7ab48c79e6d639cfd68fdf1839cd5190620f02c0"), looks := false }, kinds := [], alts := [], laidByText := true, laidKinds := [.data, .pinned], laidTests := true, laidLooks := .later }
def FnExactMinimalRepairsCardSaid : Prop := Claim7.holds Tryz.pinned (.plain (OpenSpec.ofChange fnExactMinimalRepairsSpec)) fnExactMinimalRepairsCard

/-- THE TIED CARD OF 'laws.FnExactSmallestSources'. -/
def fnExactSmallestSourcesCard : Claim7 := { stood := { row := fnExactSmallestSourcesRow, standIns := [], harness := (true, "2e5a982b1d25a66df28b991e7ab48c79e6d639cfd68fdf1839cd5190620f02c0"), looks := false }, kinds := [], alts := [], laidByText := true, laidKinds := [.data, .pinned], laidTests := true, laidLooks := .later }
def FnExactSmallestSourcesCardSaid : Prop := Claim7.holds Tryz.pinned (.plain (OpenSpec.ofChange fnExactSmallestSourcesSpec)) fnExactSmallestSourcesCard

/-- THE TIED CARD OF 'laws.FnExactBestRepair'. -/
def fnExactBestRepairCard : Claim7 := { stood := { row := fnExactBestRepairRow, standIns := [], harness := (true, "2e5a982b1d25a66df28b991e7ab48c79e6d639cfd68fdf1839cd5190620f02c0"), looks := false }, kinds := [], alts := [], laidByText := true, laidKinds := [.data, .pinned], laidTests := true, laidLooks := .later }
def FnExactBestRepairCardSaid : Prop := Claim7.holds Tryz.pinned (.plain (OpenSpec.ofChange fnExactBestRepairSpec)) fnExactBestRepairCard

/-- THE SECOND FORM's CARD OF 'laws.FnExactIsMinimalRepair'. -/
def fnExactIsMinimalRepairUptoCard : Claim7 := { stood := { row := fnExactIsMinimalRepairUptoRow, standIns := [], harness := (true, "2e5a982b1d25a66df28b991e7ab48c79e6d639cfd68fdf1839cd5190620f02c0"), looks := false }, kinds := [], alts := [], laidByText := true, laidKinds := [.data, .pinned], laidTests := true, laidLooks := .later }
def FnExactIsMinimalRepairUptoCardSaid : Prop := Claim7.holds Tryz.pinned (.plain (OpenSpec.upto fnExactIsMinimalRepairSpec)) fnExactIsMinimalRepairUptoCard

/-- THE SECOND FORM's CARD OF 'laws.FnExactCoreWithin'. -/
def fnExactCoreWithinUptoCard : Claim7 := { stood := { row := fnExactCoreWithinUptoRow, standIns := [], harness := (true, "2e5a982b1d25a66df28b991e7ab48c79e6d639cfd68fdf1839cd5190620f02c0"), looks := false }, kinds := [], alts := [], laidByText := true, laidKinds := [.data, .pinned], laidTests := true, laidLooks := .later }
def FnExactCoreWithinUptoCardSaid : Prop := Claim7.holds Tryz.pinned (.plain (OpenSpec.upto fnExactCoreWithinSpec)) fnExactCoreWithinUptoCard

/-- THE SECOND FORM's CARD OF 'laws.FnExactShrinkRepair'. -/
def fnExactShrinkRepairUptoCard : Claim7 := { stood := { row := fnExactShrinkRepairUptoRow, standIns := [], harness := (true, "2e5a982b1d25a66df28b991e7ab48c79e6d639cfd68fdf1839cd5190620f02c0"), looks := false }, kinds := [], alts := [], laidByText := true, laidKinds := [.data, .pinned], laidTests := true, laidLooks := .later }
def FnExactShrinkRepairUptoCardSaid : Prop := Claim7.holds Tryz.pinned (.plain (OpenSpec.upto fnExactShrinkRepairSpec)) fnExactShrinkRepairUptoCard

/-- THE SECOND FORM's CARD OF 'laws.FnExactSourcesOf'. -/
def fnExactSourcesOfUptoCard : Claim7 := { stood := { row := fnExactSourcesOfUptoRow, standIns := [], harness := (true, "2e5a982b1d25a66df28b991e7ab48c79e6d639cfd68fdf1839cd5190620f02c0"), looks := false }, kinds := [], alts := [], laidByText := true, laidKinds := [.data, .pinned], laidTests := true, laidLooks := .later }
def FnExactSourcesOfUptoCardSaid : Prop := Claim7.holds Tryz.pinned (.plain (OpenSpec.upto fnExactSourcesOfSpec)) fnExactSourcesOfUptoCard

/-- THE SECOND FORM's CARD OF 'laws.FnExactLeastRemoved'. -/
def fnExactLeastRemovedUptoCard : Claim7 := { stood := { row := fnExactLeastRemovedUptoRow, standIns := [], harness := (true, "2e5a982b1d25a66df28b991e7ab48c79e6d639cfd68fdf1839cd5190620f02c0"), looks := false }, kinds := [], alts := [], laidByText := true, laidKinds := [.data, .pinned], laidTests := true, laidLooks := .later }
def FnExactLeastRemovedUptoCardSaid : Prop := Claim7.holds Tryz.pinned (.plain (OpenSpec.upto fnExactLeastRemovedSpec)) fnExactLeastRemovedUptoCard

/-- THE SECOND FORM's CARD OF 'laws.FnExactInCores'. -/
def fnExactInCoresUptoCard : Claim7 := { stood := { row := fnExactInCoresUptoRow, standIns := [], harness := (true, "2e5a982b1d25a66df28b991e7ab48c79e6d639cfd68fdf1839cd5190620f02c0"), looks := false }, kinds := [], alts := [], laidByText := true, laidKinds := [.data, .pinned], laidTests := true, laidLooks := .later }
def FnExactInCoresUptoCardSaid : Prop := Claim7.holds Tryz.pinned (.plain (OpenSpec.upto fnExactInCoresSpec)) fnExactInCoresUptoCard

/-- THE SECOND FORM's CARD OF 'laws.FnExactCoresOf'. -/
def fnExactCoresOfUptoCard : Claim7 := { stood := { row := fnExactCoresOfUptoRow, standIns := [], harness := (true, "2e5a982b1d25a66df28b991e7ab48c79e6d639cfd68fdf1839cd5190620f02c0"), looks := false }, kinds := [], alts := [], laidByText := true, laidKinds := [.data, .pinned], laidTests := true, laidLooks := .later }
def FnExactCoresOfUptoCardSaid : Prop := Claim7.holds Tryz.pinned (.plain (OpenSpec.upto fnExactCoresOfSpec)) fnExactCoresOfUptoCard

/-- THE SECOND FORM's CARD OF 'laws.FnExactSmallestCore'. -/
def fnExactSmallestCoreUptoCard : Claim7 := { stood := { row := fnExactSmallestCoreUptoRow, standIns := [], harness := (true, "2e5a982b1d25a66df28b991e7ab48c79e6d639cfd68fdf1839cd5190620f02c0"), looks := false }, kinds := [], alts := [], laidByText := true, laidKinds := [.data, .pinned], laidTests := true, laidLooks := .later }
def FnExactSmallestCoreUptoCardSaid : Prop := Claim7.holds Tryz.pinned (.plain (OpenSpec.upto fnExactSmallestCoreSpec)) fnExactSmallestCoreUptoCard

/-- THE SECOND FORM's CARD OF 'laws.FnExactAlwaysKept'. -/
def fnExactAlwaysKeptUptoCard : Claim7 := { stood := { row := fnExactAlwaysKeptUptoRow, standIns := [], harness := (true, "2e5a982b1d25a66df28b991e7ab48c79e6d639cfd68fdf1839cd5190620f02c0"), looks := false }, kinds := [], alts := [], laidByText := true, laidKinds := [.data, .pinned], laidTests := true, laidLooks := .later }
def FnExactAlwaysKeptUptoCardSaid : Prop := Claim7.holds Tryz.pinned (.plain (OpenSpec.upto fnExactAlwaysKeptSpec)) fnExactAlwaysKeptUptoCard

/-- THE SECOND FORM's CARD OF 'laws.FnExactMinimalRepairs'. -/
def fnExactMinimalRepairsUptoCard : Claim7 := { stood := { row := fnExactMinimalRepairsUptoRow, standIns := [], harness := (true, "2e5a982b1d25a66df28b991e7ab48c79e6d639cfd68fdf1839cd5190620f02c0"), looks := false }, kinds := [], alts := [], laidByText := true, laidKinds := [.data, .pinned], laidTests := true, laidLooks := .later }
def FnExactMinimalRepairsUptoCardSaid : Prop := Claim7.holds Tryz.pinned (.plain (OpenSpec.upto fnExactMinimalRepairsSpec)) fnExactMinimalRepairsUptoCard

/-- THE SECOND FORM's CARD OF 'laws.FnExactSmallestSources'. -/
def fnExactSmallestSourcesUptoCard : Claim7 := { stood := { row := fnExactSmallestSourcesUptoRow, standIns := [], harness := (true, "2e5a982b1d25a66df28b991e7ab48c79e6d639cfd68fdf1839cd5190620f02c0"), looks := false }, kinds := [], alts := [], laidByText := true, laidKinds := [.data, .pinned], laidTests := true, laidLooks := .later }
def FnExactSmallestSourcesUptoCardSaid : Prop := Claim7.holds Tryz.pinned (.plain (OpenSpec.upto fnExactSmallestSourcesSpec)) fnExactSmallestSourcesUptoCard

/-- THE SECOND FORM's CARD OF 'laws.FnExactBestRepair'. -/
def fnExactBestRepairUptoCard : Claim7 := { stood := { row := fnExactBestRepairUptoRow, standIns := [], harness := (true, "2e5a982b1d25a66df28b991e7ab48c79e6d639cfd68fdf1839cd5190620f02c0"), looks := false }, kinds := [], alts := [], laidByText := true, laidKinds := [.data, .pinned], laidTests := true, laidLooks := .later }
def FnExactBestRepairUptoCardSaid : Prop := Claim7.holds Tryz.pinned (.plain (OpenSpec.upto fnExactBestRepairSpec)) fnExactBestRepairUptoCard
end Rows
end Go.Proofs.YtcpddgkloeklaaaGreatDoor
