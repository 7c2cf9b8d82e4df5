import Derived.Test.YtflcfdiochohgaaDoorPackC
import Derived.Test.YtflcfdiochohgaaDoorPackAb
import Derived.Test.YtflcfdiochohgaaDoorPackB
/- Several of my texts, one behind the other: All, Tab, TabR, AllR. -/
/- All cores that begin with some indices: the reference's side. -/
set_option linter.unusedSimpArgs false
set_option linter.unusedVariables false
namespace Go.Proofs.YtflcfdiochohgaaDoor
open Go.RowKit
end Go.Proofs.YtflcfdiochohgaaDoor

/- All cores, by number: impl.coresOf. -/
set_option linter.unusedSimpArgs false
set_option linter.unusedVariables false
namespace Go.Proofs.YtflcfdiochohgaaDoor
open Go.RowKit
end Go.Proofs.YtflcfdiochohgaaDoor

/- All minimal repairs, by number: impl.minimalRepairs. -/
set_option linter.unusedSimpArgs false
set_option linter.unusedVariables false
namespace Go.Proofs.YtflcfdiochohgaaDoor
open Go.RowKit
end Go.Proofs.YtflcfdiochohgaaDoor

/- All minimal repairs that begin with some indices: the reference's side. -/
set_option linter.unusedSimpArgs false
set_option linter.unusedVariables false
namespace Go.Proofs.YtflcfdiochohgaaDoor
open Go.RowKit
end Go.Proofs.YtflcfdiochohgaaDoor
