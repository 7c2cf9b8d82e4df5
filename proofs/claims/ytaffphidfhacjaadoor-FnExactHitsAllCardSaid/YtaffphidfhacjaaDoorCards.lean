/-
  DERIVED. GIVEN WITH THE SEED: THE CARDS: each row of YtaffphidfhacjaaDoorRows.lean that lists a variable, with what it lists TIED to the program's text (the seventh form; the later family's looks); each row that meets fmt, with fmt's text TOLD by the authors' own Lean function (tested against real Go, not proved from fmt's source: count such statements apart). THE CARD IS WHAT COUNTS. Prove the row's statement (the work); the ties are given (YtaffphidfhacjaaDoorTie.lean); close each card by the builder's one call (the guide's Derived/Test/ToyasCard.lean, 'card_holds'). Laid BY PROGRAM, IN A SANDBOX (cutbox-door.mjs). By AI agents, Wed Nov 11 2026. No macro, syntax, notation, axiom, sorry.
-/
import Derived.Test.YtaffphidfhacjaaDoorRows
import GoSem.ClaimSeven
namespace Go.Proofs.YtaffphidfhacjaaDoor
namespace Rows

/-- THE TIED CARD OF 'laws.FnExactAreChosenConsistent'. -/
def fnExactAreChosenConsistentCard : Claim7 := { stood := { row := fnExactAreChosenConsistentRow, standIns := [], harness := (true, "920631bbcb5273ce949bc7182e84058b5eb4890571db054206b6a7dc6306c202"), looks := false }, kinds := [], alts := [], laidByText := true, laidKinds := [.data, .pinned], laidTests := true, laidLooks := .later }
def FnExactAreChosenConsistentCardSaid : Prop := Claim7.holds Tryd.pinned (.plain (OpenSpec.ofChange fnExactAreChosenConsistentSpec)) fnExactAreChosenConsistentCard

/-- THE TIED CARD OF 'laws.FnExactExistsBy'. -/
def fnExactExistsByCard : Claim7 := { stood := { row := fnExactExistsByRow, standIns := [], harness := (true, "920631bbcb5273ce949bc7182e84058b5eb4890571db054206b6a7dc6306c202"), looks := false }, kinds := [], alts := [], laidByText := true, laidKinds := [.data, .pinned], laidTests := true, laidLooks := .later }
def FnExactExistsByCardSaid : Prop := Claim7.holds Tryd.pinned (.plain (OpenSpec.ofChange fnExactExistsBySpec)) fnExactExistsByCard

/-- THE TIED CARD OF 'laws.FnExactIsRepair'. -/
def fnExactIsRepairCard : Claim7 := { stood := { row := fnExactIsRepairRow, standIns := [], harness := (true, "920631bbcb5273ce949bc7182e84058b5eb4890571db054206b6a7dc6306c202"), looks := false }, kinds := [], alts := [], laidByText := true, laidKinds := [.data, .pinned], laidTests := true, laidLooks := .later }
def FnExactIsRepairCardSaid : Prop := Claim7.holds Tryd.pinned (.plain (OpenSpec.ofChange fnExactIsRepairSpec)) fnExactIsRepairCard

/-- THE TIED CARD OF 'laws.FnExactHitsAll'. -/
def fnExactHitsAllCard : Claim7 := { stood := { row := fnExactHitsAllRow, standIns := [], harness := (true, "920631bbcb5273ce949bc7182e84058b5eb4890571db054206b6a7dc6306c202"), looks := false }, kinds := [], alts := [], laidByText := true, laidKinds := [.data, .pinned], laidTests := true, laidLooks := .later }
def FnExactHitsAllCardSaid : Prop := Claim7.holds Tryd.pinned (.plain (OpenSpec.ofChange fnExactHitsAllSpec)) fnExactHitsAllCard

/-- THE TIED CARD OF 'laws.FnExactIsCore'. -/
def fnExactIsCoreCard : Claim7 := { stood := { row := fnExactIsCoreRow, standIns := [], harness := (true, "920631bbcb5273ce949bc7182e84058b5eb4890571db054206b6a7dc6306c202"), looks := false }, kinds := [], alts := [], laidByText := true, laidKinds := [.data, .pinned], laidTests := true, laidLooks := .later }
def FnExactIsCoreCardSaid : Prop := Claim7.holds Tryd.pinned (.plain (OpenSpec.ofChange fnExactIsCoreSpec)) fnExactIsCoreCard

/-- THE SECOND FORM's CARD OF 'laws.FnExactAreChosenConsistent'. -/
def fnExactAreChosenConsistentUptoCard : Claim7 := { stood := { row := fnExactAreChosenConsistentUptoRow, standIns := [], harness := (true, "920631bbcb5273ce949bc7182e84058b5eb4890571db054206b6a7dc6306c202"), looks := false }, kinds := [], alts := [], laidByText := true, laidKinds := [.data, .pinned], laidTests := true, laidLooks := .later }
def FnExactAreChosenConsistentUptoCardSaid : Prop := Claim7.holds Tryd.pinned (.plain (OpenSpec.upto fnExactAreChosenConsistentSpec)) fnExactAreChosenConsistentUptoCard

/-- THE SECOND FORM's CARD OF 'laws.FnExactExistsBy'. -/
def fnExactExistsByUptoCard : Claim7 := { stood := { row := fnExactExistsByUptoRow, standIns := [], harness := (true, "920631bbcb5273ce949bc7182e84058b5eb4890571db054206b6a7dc6306c202"), looks := false }, kinds := [], alts := [], laidByText := true, laidKinds := [.data, .pinned], laidTests := true, laidLooks := .later }
def FnExactExistsByUptoCardSaid : Prop := Claim7.holds Tryd.pinned (.plain (OpenSpec.upto fnExactExistsBySpec)) fnExactExistsByUptoCard

/-- THE SECOND FORM's CARD OF 'laws.FnExactIsRepair'. -/
def fnExactIsRepairUptoCard : Claim7 := { stood := { row := fnExactIsRepairUptoRow, standIns := [], harness := (true, "920631bbcb5273ce949bc7182e84058b5eb4890571db054206b6a7dc6306c202"), looks := false }, kinds := [], alts := [], laidByText := true, laidKinds := [.data, .pinned], laidTests := true, laidLooks := .later }
def FnExactIsRepairUptoCardSaid : Prop := Claim7.holds Tryd.pinned (.plain (OpenSpec.upto fnExactIsRepairSpec)) fnExactIsRepairUptoCard

/-- THE SECOND FORM's CARD OF 'laws.FnExactHitsAll'. -/
def fnExactHitsAllUptoCard : Claim7 := { stood := { row := fnExactHitsAllUptoRow, standIns := [], harness := (true, "920631bbcb5273ce949bc7182e84058b5eb4890571db054206b6a7dc6306c202"), looks := false }, kinds := [], alts := [], laidByText := true, laidKinds := [.data, .pinned], laidTests := true, laidLooks := .later }
def FnExactHitsAllUptoCardSaid : Prop := Claim7.holds Tryd.pinned (.plain (OpenSpec.upto fnExactHitsAllSpec)) fnExactHitsAllUptoCard

/-- THE SECOND FORM's CARD OF 'laws.FnExactIsCore'. -/
def fnExactIsCoreUptoCard : Claim7 := { stood := { row := fnExactIsCoreUptoRow, standIns := [], harness := (true, "920631bbcb5273ce949bc7182e84058b5eb4890571db054206b6a7dc6306c202"), looks := false }, kinds := [], alts := [], laidByText := true, laidKinds := [.data, .pinned], laidTests := true, laidLooks := .later }
def FnExactIsCoreUptoCardSaid : Prop := Claim7.holds Tryd.pinned (.plain (OpenSpec.upto fnExactIsCoreSpec)) fnExactIsCoreUptoCard
end Rows
end Go.Proofs.YtaffphidfhacjaaDoor
