/-
  DERIVED. GIVEN WITH THE SEED: THE CARDS: each row of YtklcaphkfdlipaaGreatDoorRows.lean that lists a variable, with what it lists TIED to the program's text (the seventh form; the later family's looks); each row that meets fmt, with fmt's text TOLD by the authors' own Lean function (tested against real Go, not proved from fmt's source: count such statements apart). THE CARD IS WHAT COUNTS. Prove the row's statement (the work); the ties are given (YtklcaphkfdlipaaGreatDoorTie.lean); close each card by the builder's one call (the guide's Derived/Test/ToyasCard.lean, 'card_holds'). Laid BY PROGRAM, IN A SANDBOX (cutbox-door.mjs). By AI agents, Wed Nov 11 2026. No macro, syntax, notation, axiom, sorry.
-/
import Derived.Test.YtklcaphkfdlipaaGreatDoorRows
import GoSem.ClaimSeven
namespace Go.Proofs.YtklcaphkfdlipaaGreatDoor
namespace Rows

/-- THE TIED CARD OF 'laws.FnExactDisputedRings'. -/
def fnExactDisputedRingsCard : Claim7 := { stood := { row := fnExactDisputedRingsRow, standIns := [], harness := (true, "02bfb43612b91c9c905609354cc5d20961ffd4221ad30896e9315874cd55b611"), looks := false }, kinds := [], alts := [], laidByText := true, laidKinds := [.data, .pinned], laidTests := true, laidLooks := .later }
def FnExactDisputedRingsCardSaid : Prop := Claim7.holds Tryz.pinned (.plain (OpenSpec.ofChange fnExactDisputedRingsSpec)) fnExactDisputedRingsCard

/-- THE TIED CARD OF 'laws.FnExactBorderOf'. -/
def fnExactBorderOfCard : Claim7 := { stood := { row := fnExactBorderOfRow, standIns := [], harness := (true, "02bfb43612b91c9c905609354cc5d20961ffd4221ad30896e9315874cd55b611"), looks := false }, kinds := [], alts := [], laidByText := true, laidKinds := [.data, .pinned], laidTests := true, laidLooks := .later }
def FnExactBorderOfCardSaid : Prop := Claim7.holds Tryz.pinned (.plain (OpenSpec.ofChange fnExactBorderOfSpec)) fnExactBorderOfCard

/-- THE TIED CARD OF 'laws.FnExactClaimantsOf'. -/
def fnExactClaimantsOfCard : Claim7 := { stood := { row := fnExactClaimantsOfRow, standIns := [], harness := (true, "02bfb43612b91c9c905609354cc5d20961ffd4221ad30896e9315874cd55b611"), looks := false }, kinds := [], alts := [], laidByText := true, laidKinds := [.data, .pinned], laidTests := true, laidLooks := .later }
def FnExactClaimantsOfCardSaid : Prop := Claim7.holds Tryz.pinned (.plain (OpenSpec.ofChange fnExactClaimantsOfSpec)) fnExactClaimantsOfCard

/-- THE TIED CARD OF 'laws.FnViews'. -/
def fnViewsCard : Claim7 := { stood := { row := fnViewsRow, standIns := [], harness := (true, "02bfb43612b91c9c905609354cc5d20961ffd4221ad30896e9315874cd55b611"), looks := false }, kinds := [], alts := [], laidByText := true, laidKinds := [.data, .pinned], laidTests := true, laidLooks := .later }
def FnViewsCardSaid : Prop := Claim7.holds Tryz.pinned (.plain (OpenSpec.ofChange fnViewsSpec)) fnViewsCard

/-- THE TIED CARD OF 'laws.FnOwners'. -/
def fnOwnersCard : Claim7 := { stood := { row := fnOwnersRow, standIns := [], harness := (true, "02bfb43612b91c9c905609354cc5d20961ffd4221ad30896e9315874cd55b611"), looks := false }, kinds := [], alts := [], laidByText := true, laidKinds := [.data, .pinned], laidTests := true, laidLooks := .later }
def FnOwnersCardSaid : Prop := Claim7.holds Tryz.pinned (.plain (OpenSpec.ofChange fnOwnersSpec)) fnOwnersCard

/-- THE SECOND FORM's CARD OF 'laws.FnExactDisputedRings'. -/
def fnExactDisputedRingsUptoCard : Claim7 := { stood := { row := fnExactDisputedRingsUptoRow, standIns := [], harness := (true, "02bfb43612b91c9c905609354cc5d20961ffd4221ad30896e9315874cd55b611"), looks := false }, kinds := [], alts := [], laidByText := true, laidKinds := [.data, .pinned], laidTests := true, laidLooks := .later }
def FnExactDisputedRingsUptoCardSaid : Prop := Claim7.holds Tryz.pinned (.plain (OpenSpec.upto fnExactDisputedRingsSpec)) fnExactDisputedRingsUptoCard

/-- THE SECOND FORM's CARD OF 'laws.FnExactBorderOf'. -/
def fnExactBorderOfUptoCard : Claim7 := { stood := { row := fnExactBorderOfUptoRow, standIns := [], harness := (true, "02bfb43612b91c9c905609354cc5d20961ffd4221ad30896e9315874cd55b611"), looks := false }, kinds := [], alts := [], laidByText := true, laidKinds := [.data, .pinned], laidTests := true, laidLooks := .later }
def FnExactBorderOfUptoCardSaid : Prop := Claim7.holds Tryz.pinned (.plain (OpenSpec.upto fnExactBorderOfSpec)) fnExactBorderOfUptoCard

/-- THE SECOND FORM's CARD OF 'laws.FnExactClaimantsOf'. -/
def fnExactClaimantsOfUptoCard : Claim7 := { stood := { row := fnExactClaimantsOfUptoRow, standIns := [], harness := (true, "02bfb43612b91c9c905609354cc5d20961ffd4221ad30896e9315874cd55b611"), looks := false }, kinds := [], alts := [], laidByText := true, laidKinds := [.data, .pinned], laidTests := true, laidLooks := .later }
def FnExactClaimantsOfUptoCardSaid : Prop := Claim7.holds Tryz.pinned (.plain (OpenSpec.upto fnExactClaimantsOfSpec)) fnExactClaimantsOfUptoCard

/-- THE SECOND FORM's CARD OF 'laws.FnViews'. -/
def fnViewsUptoCard : Claim7 := { stood := { row := fnViewsUptoRow, standIns := [], harness := (true, "02bfb43612b91c9c905609354cc5d20961ffd4221ad30896e9315874cd55b611"), looks := false }, kinds := [], alts := [], laidByText := true, laidKinds := [.data, .pinned], laidTests := true, laidLooks := .later }
def FnViewsUptoCardSaid : Prop := Claim7.holds Tryz.pinned (.plain (OpenSpec.upto fnViewsSpec)) fnViewsUptoCard

/-- THE SECOND FORM's CARD OF 'laws.FnOwners'. -/
def fnOwnersUptoCard : Claim7 := { stood := { row := fnOwnersUptoRow, standIns := [], harness := (true, "02bfb43612b91c9c905609354cc5d20961ffd4221ad30896e9315874cd55b611"), looks := false }, kinds := [], alts := [], laidByText := true, laidKinds := [.data, .pinned], laidTests := true, laidLooks := .later }
def FnOwnersUptoCardSaid : Prop := Claim7.holds Tryz.pinned (.plain (OpenSpec.upto fnOwnersSpec)) fnOwnersUptoCard
end Rows
end Go.Proofs.YtklcaphkfdlipaaGreatDoor
