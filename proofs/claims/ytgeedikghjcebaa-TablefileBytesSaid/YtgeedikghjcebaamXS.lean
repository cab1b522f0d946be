/- Reading as the reference does it. -/
import Derived.Test.YtgeedikghjcebaamXC
import Derived.Test.YtgeedikghjcebaamXG
namespace Go.Proofs.Ytgeedikghjcebaa.Ai
open Go Go.Proofs
set_option linter.unusedVariables false
set_option linter.unusedSimpArgs false
set_option maxRecDepth 10000
set_option maxHeartbeats 4000000
section
variable {h : aA0} {r : Nat} {w : AV} {a : Nat} {b : Bool}
end
section
variable {r : Nat} {N : Nat} {l : List UInt8} {w : AV}
end
end Go.Proofs.Ytgeedikghjcebaa.Ai
namespace Go.Proofs.Ytgeedikghjcebaa.Ai
open Go Go.Proofs
set_option linter.unusedVariables false
set_option linter.unusedSimpArgs false
set_option maxRecDepth 10000
set_option maxHeartbeats 4000000
section
variable {r B N : Nat} {l : List UInt8} {w : AV}
end
end Go.Proofs.Ytgeedikghjcebaa.Ai
