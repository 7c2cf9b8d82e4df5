import Derived.Test.YtcpddgkloeklaaaGreatDoorListL
/- The law AreClaims. -/
set_option linter.unusedSimpArgs false
set_option linter.unusedVariables false
namespace Go.Proofs.YtcpddgkloeklaaaGreatDoor
open Go.RowKit
end Go.Proofs.YtcpddgkloeklaaaGreatDoor
