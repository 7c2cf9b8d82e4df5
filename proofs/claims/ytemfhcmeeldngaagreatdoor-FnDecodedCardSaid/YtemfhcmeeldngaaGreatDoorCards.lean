/-
  DERIVED. GIVEN WITH THE SEED: THE CARDS: each row of YtemfhcmeeldngaaGreatDoorRows.lean that lists a variable, with what it lists TIED to the program's text (the seventh form; the later family's looks); each row that meets fmt, with fmt's text TOLD by the authors' own Lean function (tested against real Go, not proved from fmt's source: count such statements apart). THE CARD IS WHAT COUNTS. Prove the row's statement (the work); the ties are given (YtemfhcmeeldngaaGreatDoorTie.lean); close each card by the builder's one call (the guide's Derived/Test/ToyasCard.lean, 'card_holds'). Laid BY PROGRAM, IN A SANDBOX (cutbox-door.mjs). By AI agents, Wed Nov 11 2026. No macro, syntax, notation, axiom, sorry.
-/
import Derived.Test.YtemfhcmeeldngaaGreatDoorRows
import GoSem.ClaimSeven
namespace Go.Proofs.YtemfhcmeeldngaaGreatDoor
namespace Rows

/-- THE TIED CARD OF 'laws.FnDecoded'. -/
def fnDecodedCard : Claim7 := { stood := { row := fnDecodedRow, standIns := [], harness := (true, "71e0b6b2f70831a7dce923a68d551e410f512659a380a9b361602c17384c152e"), looks := false }, kinds := [], alts := [], laidByText := true, laidKinds := [.data, .pinned], laidTests := true, laidLooks := .later }
def FnDecodedCardSaid : Prop := Claim7.holds Tryz.pinned (.plain (OpenSpec.ofChange fnDecodedSpec)) fnDecodedCard

/-- THE SECOND FORM's CARD OF 'laws.FnDecoded'. -/
def fnDecodedUptoCard : Claim7 := { stood := { row := fnDecodedUptoRow, standIns := [], harness := (true, "71e0b6b2f70831a7dce923a68d551e410f512659a380a9b361602c17384c152e"), looks := false }, kinds := [], alts := [], laidByText := true, laidKinds := [.data, .pinned], laidTests := true, laidLooks := .later }
def FnDecodedUptoCardSaid : Prop := Claim7.holds Tryz.pinned (.plain (OpenSpec.upto fnDecodedSpec)) fnDecodedUptoCard
end Rows
end Go.Proofs.YtemfhcmeeldngaaGreatDoor
