import Derived.Test.YtfjlilpebhiogaaGreatDoorPackA
import Derived.Test.YtfjlilpebhiogaaGreatDoorMaskB
import Derived.Lib.SliceRun
/- slices.Clone of bools. -/
set_option linter.unusedSimpArgs false
set_option linter.unusedVariables false
namespace Go.Proofs.YtfjlilpebhiogaaGreatDoor
open Go.RowKit
theorem one_bool (l : List Bool) : ∀ u ∈ boolCells l, u.oneCell' = true := by
  intro u hu
  simp only [boolCells, List.mem_map] at hu
  obtain ⟨b, _, rfl⟩ := hu
  rfl
end Go.Proofs.YtfjlilpebhiogaaGreatDoor
