import Derived.Test.YtokbolgaokbdcaaDoorUseI
/- Which rules are used, the reference's way. -/
set_option linter.unusedSimpArgs false
set_option linter.unusedVariables false
namespace Go.Proofs.YtokbolgaokbdcaaDoor
open Go.RowKit
--@end
end Go.Proofs.YtokbolgaokbdcaaDoor
