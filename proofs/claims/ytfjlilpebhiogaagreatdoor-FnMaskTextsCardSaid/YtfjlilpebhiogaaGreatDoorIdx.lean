import Derived.Test.YtfjlilpebhiogaaGreatDoorPackAb
/- The indices of those claims of which a function value tells true. -/
set_option linter.unusedSimpArgs false
set_option linter.unusedVariables false
namespace Go.Proofs.YtfjlilpebhiogaaGreatDoor
open Go.RowKit
end Go.Proofs.YtfjlilpebhiogaaGreatDoor
