import Derived.Test.YtflcfdiochohgaaGreatDoorPackA
/- When two claims contradict each other: both sides. -/
set_option linter.unusedSimpArgs false
set_option linter.unusedVariables false
namespace Go.Proofs.YtflcfdiochohgaaGreatDoor
open Go.RowKit
section
variable (c d : Clm) (w : World)
end
end Go.Proofs.YtflcfdiochohgaaGreatDoor
