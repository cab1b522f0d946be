/- PackOf: the law. -/
import Derived.Test.YtkgndbhflehhhaamPrb
namespace Go.Proofs.Ytkgndbhflehhhaa.Ai
open Go Go.Proofs
set_option linter.unusedVariables false
set_option linter.unusedSimpArgs false
set_option maxRecDepth 10000
set_option maxHeartbeats 4000000
section
variable {t : TabD} {av gv : AV}
end
end Go.Proofs.Ytkgndbhflehhhaa.Ai
