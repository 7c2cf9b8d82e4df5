import Derived.Test.YtkkhjbdnpobpnaaMaskV
/- Unions, meetings and differences of two masks by the reference. -/
set_option linter.unusedSimpArgs false
set_option linter.unusedVariables false
namespace Go.Proofs.Ytkkhjbdnpobpnaa
open Go.RowKit

end Go.Proofs.Ytkkhjbdnpobpnaa
