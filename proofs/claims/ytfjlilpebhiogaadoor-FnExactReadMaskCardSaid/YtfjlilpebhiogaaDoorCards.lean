/-
  DERIVED. GIVEN WITH THE SEED: THE CARDS: each row of YtfjlilpebhiogaaDoorRows.lean that lists a variable, with what it lists TIED to the program's text (the seventh form; the later family's looks); each row that meets fmt, with fmt's text TOLD by the authors' own Lean function (tested against real Go, not proved from fmt's source: count such statements apart). THE CARD IS WHAT COUNTS. Prove the row's statement (the work); the ties are given (YtfjlilpebhiogaaDoorTie.lean); close each card by the builder's one call (the guide's Derived/Test/ToyasCard.lean, 'card_holds'). Laid BY PROGRAM, IN A SANDBOX (cutbox-door.mjs). By AI agents, Wed Nov 11 2026. No macro, syntax, notation, axiom, sorry.
-/
import Derived.Test.YtfjlilpebhiogaaDoorRows
import GoSem.ClaimSeven
namespace Go.Proofs.YtfjlilpebhiogaaDoor
namespace Rows

/-- THE TIED CARD OF 'laws.FnExactMaskText'. -/
def fnExactMaskTextCard : Claim7 := { stood := { row := fnExactMaskTextRow, standIns := [], harness := (true, "6a1597ccd668d33e8c845df4e0201af63480b7d8b8ec8f6c0ea9ecaf9dcb85be"), looks := true }, kinds := [], alts := [], laidByText := true, laidKinds := [.data, .data, .data], laidTests := true, laidLooks := .later }
def FnExactMaskTextCardSaid : Prop := Claim7.holds Tryd.pinned (.plain (OpenSpec.ofChange fnExactMaskTextSpec)) fnExactMaskTextCard

/-- THE TIED CARD OF 'laws.FnExactReadMask'. -/
def fnExactReadMaskCard : Claim7 := { stood := { row := fnExactReadMaskRow, standIns := [], harness := (true, "6a1597ccd668d33e8c845df4e0201af63480b7d8b8ec8f6c0ea9ecaf9dcb85be"), looks := true }, kinds := [], alts := [], laidByText := true, laidKinds := [.data, .data, .data, .data, .sentinel, .sentinel, .pinned], laidTests := true, laidLooks := .later }
def FnExactReadMaskCardSaid : Prop := Claim7.holds Tryd.pinned (.plain (OpenSpec.ofChange fnExactReadMaskSpec)) fnExactReadMaskCard

/-- THE SECOND FORM's CARD OF 'laws.FnExactMaskText'. -/
def fnExactMaskTextUptoCard : Claim7 := { stood := { row := fnExactMaskTextUptoRow, standIns := [], harness := (true, "6a1597ccd668d33e8c845df4e0201af63480b7d8b8ec8f6c0ea9ecaf9dcb85be"), looks := true }, kinds := [], alts := [], laidByText := true, laidKinds := [.data, .data, .data], laidTests := true, laidLooks := .later }
def FnExactMaskTextUptoCardSaid : Prop := Claim7.holds Tryd.pinned (.plain (OpenSpec.upto fnExactMaskTextSpec)) fnExactMaskTextUptoCard

/-- THE SECOND FORM's CARD OF 'laws.FnExactReadMask'. -/
def fnExactReadMaskUptoCard : Claim7 := { stood := { row := fnExactReadMaskUptoRow, standIns := [], harness := (true, "6a1597ccd668d33e8c845df4e0201af63480b7d8b8ec8f6c0ea9ecaf9dcb85be"), looks := true }, kinds := [], alts := [], laidByText := true, laidKinds := [.data, .data, .data, .data, .sentinel, .sentinel, .pinned], laidTests := true, laidLooks := .later }
def FnExactReadMaskUptoCardSaid : Prop := Claim7.holds Tryd.pinned (.plain (OpenSpec.upto fnExactReadMaskSpec)) fnExactReadMaskUptoCard
end Rows
end Go.Proofs.YtfjlilpebhiogaaDoor
