import Derived.Test.YtklcaphkfdlipaaGreatDoorEdgW
import Derived.Test.YtklcaphkfdlipaaGreatDoorFitW
import Derived.Test.YtklcaphkfdlipaaGreatDoorPackVa
/- Slices of edges: comparison and marks for the laws; an edge among edges, both sides. -/
set_option linter.unusedSimpArgs false
set_option linter.unusedVariables false
namespace Go.Proofs.YtklcaphkfdlipaaGreatDoor
open Go.RowKit
end Go.Proofs.YtklcaphkfdlipaaGreatDoor
