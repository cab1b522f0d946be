/- Reading an entry: the reference's; which tables are looked at. -/
import Derived.Test.YtkgndbhflehhhaaqPk1
namespace Go.Proofs.Ytkgndbhflehhhaa.Ai
open Go Go.Proofs
set_option linter.unusedVariables false
set_option linter.unusedSimpArgs false
set_option maxRecDepth 10000
set_option maxHeartbeats 4000000

end Go.Proofs.Ytkgndbhflehhhaa.Ai
