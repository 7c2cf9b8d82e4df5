import Derived.Test.YtklcaphkfdlipaaGreatDoorPackVa
import Derived.Test.YtklcaphkfdlipaaGreatDoorPackVg
/- Several of my texts, one behind the other: DspW, DspF. -/
/- Disputed rings: the walks of both sides. -/
set_option linter.unusedSimpArgs false
set_option linter.unusedVariables false
namespace Go.Proofs.YtklcaphkfdlipaaGreatDoor
open Go.RowKit
end Go.Proofs.YtklcaphkfdlipaaGreatDoor

/- DisputedRings: both sides. -/
set_option linter.unusedSimpArgs false
set_option linter.unusedVariables false
namespace Go.Proofs.YtklcaphkfdlipaaGreatDoor
open Go.RowKit
end Go.Proofs.YtklcaphkfdlipaaGreatDoor
