import Derived.Test.YtfjlilpebhiogaaGreatDoorPackA
import Derived.StillTailTactics
/- A drawn region whose first operations read or call quietly, in any order, before a chain of others. -/
set_option linter.unusedSimpArgs false
set_option linter.unusedVariables false
namespace Go.Proofs.YtfjlilpebhiogaaGreatDoor
open Go.RowKit
section
variable {P : Program} {ops : Array Oper} {C : World → Prop} {md : Region.Mode}
end
end Go.Proofs.YtfjlilpebhiogaaGreatDoor
