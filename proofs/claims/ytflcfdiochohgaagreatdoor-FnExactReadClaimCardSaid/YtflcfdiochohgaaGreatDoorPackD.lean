import Derived.Test.YtflcfdiochohgaaGreatDoorPackC
import Derived.Test.YtflcfdiochohgaaGreatDoorPackAb
import Derived.Test.YtflcfdiochohgaaGreatDoorPackB
/- Several of my texts, one behind the other: All, Tab, TabR, AllR. -/
/- All cores that begin with some indices: the reference's side. -/
set_option linter.unusedSimpArgs false
set_option linter.unusedVariables false
namespace Go.Proofs.YtflcfdiochohgaaGreatDoor
open Go.RowKit
end Go.Proofs.YtflcfdiochohgaaGreatDoor

/- All cores, by number: impl.coresOf. -/
set_option linter.unusedSimpArgs false
set_option linter.unusedVariables false
namespace Go.Proofs.YtflcfdiochohgaaGreatDoor
open Go.RowKit
end Go.Proofs.YtflcfdiochohgaaGreatDoor

/- All minimal repairs, by number: impl.minimalRepairs. -/
set_option linter.unusedSimpArgs false
set_option linter.unusedVariables false
namespace Go.Proofs.YtflcfdiochohgaaGreatDoor
open Go.RowKit
end Go.Proofs.YtflcfdiochohgaaGreatDoor

/- All minimal repairs that begin with some indices: the reference's side. -/
set_option linter.unusedSimpArgs false
set_option linter.unusedVariables false
namespace Go.Proofs.YtflcfdiochohgaaGreatDoor
open Go.RowKit
end Go.Proofs.YtflcfdiochohgaaGreatDoor
