/- The reference's table: read out of a packed one. -/
import Derived.Test.YtgeedikghjcebaamXP
namespace Go.Proofs.Ytgeedikghjcebaa.Ai
open Go Go.Proofs
set_option linter.unusedVariables false
set_option linter.unusedSimpArgs false
set_option maxRecDepth 10000
set_option maxHeartbeats 4000000
section
variable {p : PackD} {ca cg : List AV} {B : Nat}
end
end Go.Proofs.Ytgeedikghjcebaa.Ai
namespace Go.Proofs.Ytgeedikghjcebaa.Ai
open Go Go.Proofs
set_option linter.unusedVariables false
set_option linter.unusedSimpArgs false
set_option maxRecDepth 10000
set_option maxHeartbeats 4000000
section
variable {p : PackD} {cs : List AV}
end
section
variable {p : PackD} {cs : List AV}
end
end Go.Proofs.Ytgeedikghjcebaa.Ai
