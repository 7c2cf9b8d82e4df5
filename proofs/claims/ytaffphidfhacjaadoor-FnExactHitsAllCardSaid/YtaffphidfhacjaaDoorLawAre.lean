import Derived.Test.YtaffphidfhacjaaDoorListL
/- The law AreClaims. -/
set_option linter.unusedSimpArgs false
set_option linter.unusedVariables false
namespace Go.Proofs.YtaffphidfhacjaaDoor
open Go.RowKit
end Go.Proofs.YtaffphidfhacjaaDoor
