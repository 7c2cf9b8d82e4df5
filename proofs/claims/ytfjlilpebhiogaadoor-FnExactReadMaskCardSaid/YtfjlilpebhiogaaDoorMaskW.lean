import Derived.Test.YtfjlilpebhiogaaDoorMaskV
/- Unions, meetings and differences of two masks by the reference. -/
set_option linter.unusedSimpArgs false
set_option linter.unusedVariables false
namespace Go.Proofs.YtfjlilpebhiogaaDoor
open Go.RowKit

end Go.Proofs.YtfjlilpebhiogaaDoor
