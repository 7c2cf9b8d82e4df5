import Derived.Test.YtokbolgaokbdcaaDoorFirstS
/- CountParsings and FirstParsing, both sides. -/
set_option linter.unusedSimpArgs false
set_option linter.unusedVariables false
namespace Go.Proofs.YtokbolgaokbdcaaDoor
open Go.RowKit
end Go.Proofs.YtokbolgaokbdcaaDoor
