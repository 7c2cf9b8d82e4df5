import Derived.Test.YtflcfdiochohgaaDoorPackA
/- When two claims contradict each other: both sides. -/
set_option linter.unusedSimpArgs false
set_option linter.unusedVariables false
namespace Go.Proofs.YtflcfdiochohgaaDoor
open Go.RowKit
section
variable (c d : Clm) (w : World)
end
end Go.Proofs.YtflcfdiochohgaaDoor
