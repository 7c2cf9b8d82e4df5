/-
  DERIVED. GIVEN WITH THE SEED: THE CARDS: each row of YtfjlilpebhiogaaGreatDoorRows.lean that lists a variable, with what it lists TIED to the program's text (the seventh form; the later family's looks); each row that meets fmt, with fmt's text TOLD by the authors' own Lean function (tested against real Go, not proved from fmt's source: count such statements apart). THE CARD IS WHAT COUNTS. Prove the row's statement (the work); the ties are given (YtfjlilpebhiogaaGreatDoorTie.lean); close each card by the builder's one call (the guide's Derived/Test/ToyasCard.lean, 'card_holds'). Laid BY PROGRAM, IN A SANDBOX (cutbox-door.mjs). By AI agents, Wed Nov 11 2026. No macro, syntax, notation, axiom, sorry.
-/
import Derived.Test.YtfjlilpebhiogaaGreatDoorRows
import GoSem.ClaimSeven
namespace Go.Proofs.YtfjlilpebhiogaaGreatDoor
namespace Rows

/-- THE TIED CARD OF 'laws.FnClaimTexts'. -/
def fnClaimTextsCard : Claim7 := { stood := { row := fnClaimTextsRow, standIns := [], harness := (true, "44c5b74ccacc9c28bd78d6903d99bab9f688759a273f83eac42fcb671df42433"), looks := true }, kinds := [], alts := [], laidByText := true, laidKinds := [.data, .data, .data, .data, .sentinel, .sentinel, .pinned], laidTests := true, laidLooks := .later }
def FnClaimTextsCardSaid : Prop := Claim7.holds Tryz.pinned (.plain (OpenSpec.ofChange fnClaimTextsSpec)) fnClaimTextsCard

/-- THE TIED CARD OF 'laws.FnMaskTexts'. -/
def fnMaskTextsCard : Claim7 := { stood := { row := fnMaskTextsRow, standIns := [], harness := (true, "44c5b74ccacc9c28bd78d6903d99bab9f688759a273f83eac42fcb671df42433"), looks := true }, kinds := [], alts := [], laidByText := true, laidKinds := [.data, .data, .data, .data, .sentinel, .sentinel, .pinned], laidTests := true, laidLooks := .later }
def FnMaskTextsCardSaid : Prop := Claim7.holds Tryz.pinned (.plain (OpenSpec.ofChange fnMaskTextsSpec)) fnMaskTextsCard

/-- THE SECOND FORM's CARD OF 'laws.FnClaimTexts'. -/
def fnClaimTextsUptoCard : Claim7 := { stood := { row := fnClaimTextsUptoRow, standIns := [], harness := (true, "44c5b74ccacc9c28bd78d6903d99bab9f688759a273f83eac42fcb671df42433"), looks := true }, kinds := [], alts := [], laidByText := true, laidKinds := [.data, .data, .data, .data, .sentinel, .sentinel, .pinned], laidTests := true, laidLooks := .later }
def FnClaimTextsUptoCardSaid : Prop := Claim7.holds Tryz.pinned (.plain (OpenSpec.upto fnClaimTextsSpec)) fnClaimTextsUptoCard

/-- THE SECOND FORM's CARD OF 'laws.FnMaskTexts'. -/
def fnMaskTextsUptoCard : Claim7 := { stood := { row := fnMaskTextsUptoRow, standIns := [], harness := (true, "44c5b74ccacc9c28bd78d6903d99bab9f688759a273f83eac42fcb671df42433"), looks := true }, kinds := [], alts := [], laidByText := true, laidKinds := [.data, .data, .data, .data, .sentinel, .sentinel, .pinned], laidTests := true, laidLooks := .later }
def FnMaskTextsUptoCardSaid : Prop := Claim7.holds Tryz.pinned (.plain (OpenSpec.upto fnMaskTextsSpec)) fnMaskTextsUptoCard
end Rows
end Go.Proofs.YtfjlilpebhiogaaGreatDoor
