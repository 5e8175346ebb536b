
/- Envelopes: Clash, walked. -/
import Derived.Test.YtpnngbfmmjjnaaaEg
namespace Go.Proofs.Ytpnngbfmmjjnaaa
open Go.RowKit
set_option linter.unusedVariables false
set_option linter.unusedSimpArgs false

end Go.Proofs.Ytpnngbfmmjjnaaa
