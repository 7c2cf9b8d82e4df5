import Derived.Test.YtfjlilpebhiogaaGreatDoorPackA
/- append to a row of the call's own: where the new row lies. -/
set_option linter.unusedSimpArgs false
set_option linter.unusedVariables false
namespace Go.Proofs.YtfjlilpebhiogaaGreatDoor
open Go.RowKit
section
variable {P : Program} (w : World)
end
end Go.Proofs.YtfjlilpebhiogaaGreatDoor
