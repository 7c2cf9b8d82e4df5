import Derived.Test.YtkkhjbdnpobpnaaPiecesI
import Derived.Test.YtkkhjbdnpobpnaaPieceS
/- All pieces, the reference's way. -/
set_option linter.unusedSimpArgs false
set_option linter.unusedVariables false
namespace Go.Proofs.Ytkkhjbdnpobpnaa
open Go.RowKit
end Go.Proofs.Ytkkhjbdnpobpnaa
