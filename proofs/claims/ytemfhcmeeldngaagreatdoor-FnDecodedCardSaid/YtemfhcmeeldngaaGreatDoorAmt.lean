import Derived.Test.YtemfhcmeeldngaaGreatDoorDtx
/- AmbiguousText and IsUnambiguous, both sides. -/
set_option linter.unusedSimpArgs false
set_option linter.unusedVariables false
namespace Go.Proofs.YtemfhcmeeldngaaGreatDoor
open Go.RowKit
end Go.Proofs.YtemfhcmeeldngaaGreatDoor
