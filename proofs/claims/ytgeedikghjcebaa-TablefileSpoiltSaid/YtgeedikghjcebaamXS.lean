/- Reading as the reference does it. -/
import Derived.Test.YtgeedikghjcebaamXC
import Derived.Test.YtgeedikghjcebaamXG
namespace Go.Proofs.Ytgeedikghjcebaa.Ai
open Go Go.Proofs
set_option linter.unusedVariables false
set_option linter.unusedSimpArgs false
set_option maxRecDepth 10000
set_option maxHeartbeats 4000000
def aEL (l:List UInt8):Option (Nat × List UInt8) :=
 match rdG 0 0 l with
 | some (x,false,r)=>some (x,r)
 | _=>none
def aDs:Nat→List UInt8→Option (List Int × List UInt8)
 | 0,l=>some ([],l)
 | k+1,l =>
  match aEL l with
  | none=>none
  | some (x,r)=>(aDs k r).map fun p=>((x:Int)::p.1,p.2)
def aLa (l:List UInt8):Option (List Int × List UInt8) :=
 match aEL l with
 | none=>none
 | some (n,r)=>aDs n r
def aE5:Nat→List UInt8→Option (List (List Int) × List UInt8)
 | 0,l=>some ([],l)
 | k+1,l =>
  match aLa l with
  | none=>none
  | some (x,r)=>(aE5 k r).map fun p=>(x::p.1,p.2)
theorem aS5 {l r:List UInt8} {x:Nat} (h:aEL l=some (x,r)):x < 2147483648∧r.length < l.length:=by
 unfold aEL at h
 split at h
 ·rename_i a b c
  cases h
  exact aN8 l 0 0 (by decide) (by omega) c
 ·cases h
section
variable {h : aA0} {r : Nat} {w : AV} {a : Nat} {b : Bool}
end
section
variable {r : Nat} {N : Nat} {l : List UInt8} {w : AV}
end
end Go.Proofs.Ytgeedikghjcebaa.Ai
namespace Go.Proofs.Ytgeedikghjcebaa.Ai
open Go Go.Proofs
set_option linter.unusedVariables false
set_option linter.unusedSimpArgs false
set_option maxRecDepth 10000
set_option maxHeartbeats 4000000
section
variable {r B N : Nat} {l : List UInt8} {w : AV}
end
end Go.Proofs.Ytgeedikghjcebaa.Ai
