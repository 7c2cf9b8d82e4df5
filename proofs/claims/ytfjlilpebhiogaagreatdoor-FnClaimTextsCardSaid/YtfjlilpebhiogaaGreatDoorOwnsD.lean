import Derived.Test.YtfjlilpebhiogaaGreatDoorPackAa
/- Rows of a call's own in later worlds (as in the texts Two and DrawM, for the seats of claims). -/
set_option linter.unusedSimpArgs false
set_option linter.unusedVariables false
namespace Go.Proofs.YtfjlilpebhiogaaGreatDoor
open Go.RowKit
end Go.Proofs.YtfjlilpebhiogaaGreatDoor
