import Derived.Test.YtfjlilpebhiogaaGreatDoorNum
import Derived.Test.YtfjlilpebhiogaaGreatDoorPackAa
import Derived.Test.YtfjlilpebhiogaaGreatDoorPackA
import Derived.Test.YtfjlilpebhiogaaGreatDoorTail
/- The texts of claims: both sides. -/
set_option linter.unusedSimpArgs false
set_option linter.unusedVariables false
namespace Go.Proofs.YtfjlilpebhiogaaGreatDoor
open Go.RowKit
end Go.Proofs.YtfjlilpebhiogaaGreatDoor
