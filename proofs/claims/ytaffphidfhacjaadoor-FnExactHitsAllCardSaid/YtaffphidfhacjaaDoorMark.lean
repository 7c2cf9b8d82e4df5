import Derived.Test.YtaffphidfhacjaaDoorToI
import Derived.Laws.BytesArg
/- Marks: texts of numbers, marks over claims and texts. -/
set_option linter.unusedSimpArgs false
set_option linter.unusedVariables false
namespace Go.Proofs.YtaffphidfhacjaaDoor
open Go.RowKit
end Go.Proofs.YtaffphidfhacjaaDoor
