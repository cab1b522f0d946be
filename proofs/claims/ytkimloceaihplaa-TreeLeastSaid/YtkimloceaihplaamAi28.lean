/- Regions whose order is drawn, walked by rewriting: every order that is not settled ahead is tried; all must end alike. -/
import Derived.Test.YtkimloceaihplaamAi27
namespace Go.Proofs.Ytkimloceaihplaa.Ai
open Go
set_option linter.unusedVariables false
set_option linter.unusedSimpArgs false
def ds (m : Nat) : Option St → List (Option St) → Option St
 | none, _ => none
 | some s, l => if l.all (fun o => sameI m o (some s)) then some s else none
end Go.Proofs.Ytkimloceaihplaa.Ai
