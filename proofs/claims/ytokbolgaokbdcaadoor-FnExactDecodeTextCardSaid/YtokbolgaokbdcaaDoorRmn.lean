import Derived.Test.YtokbolgaokbdcaaDoorSgn
/- Romanisations, both sides. -/
set_option linter.unusedSimpArgs false
set_option linter.unusedVariables false
namespace Go.Proofs.YtokbolgaokbdcaaDoor
open Go.RowKit
end Go.Proofs.YtokbolgaokbdcaaDoor
