/-
  DERIVED. GIVEN WITH THE SEED: THE CARDS: each row of YtflcfdiochohgaaDoorRows.lean that lists a variable, with what it lists TIED to the program's text (the seventh form; the later family's looks); each row that meets fmt, with fmt's text TOLD by the authors' own Lean function (tested against real Go, not proved from fmt's source: count such statements apart). THE CARD IS WHAT COUNTS. Prove the row's statement (the work); the ties are given (YtflcfdiochohgaaDoorTie.lean); close each card by the builder's one call (the guide's Derived/Test/ToyasCard.lean, 'card_holds'). Laid BY PROGRAM, IN A SANDBOX (cutbox-door.mjs). By AI agents, Wed Nov 11 2026. No macro, syntax, notation, axiom, sorry.
-/
import Derived.Test.YtflcfdiochohgaaDoorRows
import GoSem.ClaimSeven
namespace Go.Proofs.YtflcfdiochohgaaDoor
namespace Rows

/-- THE TIED CARD OF 'laws.FnCircles'. -/
def fnCirclesCard : Claim7 := { stood := { row := fnCirclesRow, standIns := [], harness := (true, "1700e3f2c9b9a90caf3211caf8b596a91867212597958d85ec668ccbfa3e6b08"), looks := false }, kinds := [], alts := [], laidByText := true, laidKinds := [.data, .pinned], laidTests := true, laidLooks := .later }
def FnCirclesCardSaid : Prop := Claim7.holds Tryd.pinned (.plain (OpenSpec.ofChange fnCirclesSpec)) fnCirclesCard

/-- THE TIED CARD OF 'laws.FnExactClaimText'. -/
def fnExactClaimTextCard : Claim7 := { stood := { row := fnExactClaimTextRow, standIns := [], harness := (true, "1700e3f2c9b9a90caf3211caf8b596a91867212597958d85ec668ccbfa3e6b08"), looks := false }, kinds := [], alts := [], laidByText := true, laidKinds := [.data, .data, .data, .data, .pinned], laidTests := true, laidLooks := .later }
def FnExactClaimTextCardSaid : Prop := Claim7.holds Tryd.pinned (.plain (OpenSpec.ofChange fnExactClaimTextSpec)) fnExactClaimTextCard

/-- THE SECOND FORM's CARD OF 'laws.FnCircles'. -/
def fnCirclesUptoCard : Claim7 := { stood := { row := fnCirclesUptoRow, standIns := [], harness := (true, "1700e3f2c9b9a90caf3211caf8b596a91867212597958d85ec668ccbfa3e6b08"), looks := false }, kinds := [], alts := [], laidByText := true, laidKinds := [.data, .pinned], laidTests := true, laidLooks := .later }
def FnCirclesUptoCardSaid : Prop := Claim7.holds Tryd.pinned (.plain (OpenSpec.upto fnCirclesSpec)) fnCirclesUptoCard

/-- THE SECOND FORM's CARD OF 'laws.FnExactClaimText'. -/
def fnExactClaimTextUptoCard : Claim7 := { stood := { row := fnExactClaimTextUptoRow, standIns := [], harness := (true, "1700e3f2c9b9a90caf3211caf8b596a91867212597958d85ec668ccbfa3e6b08"), looks := false }, kinds := [], alts := [], laidByText := true, laidKinds := [.data, .data, .data, .data, .pinned], laidTests := true, laidLooks := .later }
def FnExactClaimTextUptoCardSaid : Prop := Claim7.holds Tryd.pinned (.plain (OpenSpec.upto fnExactClaimTextSpec)) fnExactClaimTextUptoCard
end Rows
end Go.Proofs.YtflcfdiochohgaaDoor
