import Derived.Test.YtemfhcmeeldngaaGreatDoorPrs
import Derived.Test.YtemfhcmeeldngaaGreatDoorAmt
import Derived.Test.YtemfhcmeeldngaaGreatDoorParsR
import Derived.Test.YtemfhcmeeldngaaGreatDoorRmn
/- What the law on parsings asks, in plain terms. -/
set_option linter.unusedSimpArgs false
set_option linter.unusedVariables false
namespace Go.Proofs.YtemfhcmeeldngaaGreatDoor
open Go.RowKit
theorem roms_ne {T : List Rul} (h : emptyB T = false) : ∀ i (hi : i < T.length), kb T[i].rom ≠ [] := fun i hi e => by
  have h1 := emptyB_no h i hi
  have h2 : (kb T[i].rom).length = 0 := by rw [e]; rfl
  rw [length_kb] at h2
  omega
end Go.Proofs.YtemfhcmeeldngaaGreatDoor
