/- Reading as the reference does it. -/
import Derived.Test.YtgeedikghjcebaamXC
import Derived.Test.YtgeedikghjcebaamXG
namespace Go.Proofs.Ytgeedikghjcebaa.Ai
open Go Go.Proofs
set_option linter.unusedVariables false
set_option linter.unusedSimpArgs false
set_option maxRecDepth 10000
set_option maxHeartbeats 4000000
def aDx (l:List UInt8):Option (Nat × List UInt8) :=
 match rdG 0 0 l with
 | some (x,false,r)=>some (x,r)
 | _=>none
def aCR:Nat→List UInt8→Option (List Int × List UInt8)
 | 0,l=>some ([],l)
 | k+1,l =>
  match aDx l with
  | none=>none
  | some (x,r)=>(aCR k r).map fun p=>((x:Int)::p.1,p.2)
def aGR (l:List UInt8):Option (List Int × List UInt8) :=
 match aDx l with
 | none=>none
 | some (n,r)=>aCR n r
def aCM:Nat→List UInt8→Option (List (List Int) × List UInt8)
 | 0,l=>some ([],l)
 | k+1,l =>
  match aGR l with
  | none=>none
  | some (x,r)=>(aCM k r).map fun p=>(x::p.1,p.2)
theorem aQz {l r:List UInt8} {x:Nat} (h:aDx l=some (x,r)):x < 2147483648∧r.length < l.length:=by
 unfold aDx at h
 split at h
 ·rename_i a b c
  cases h
  exact aOQ l 0 0 (by decide) (by omega) c
 ·cases h
section
variable {h : aA0} {r : Nat} {w : AV} {a : Nat} {b : Bool}
end
theorem aWG:(128:Nat) ^ 4=268435456:=by decide
section
variable {r : Nat} {N : Nat} {l : List UInt8} {w : AV}
end
end Go.Proofs.Ytgeedikghjcebaa.Ai
namespace Go.Proofs.Ytgeedikghjcebaa.Ai
open Go Go.Proofs
set_option linter.unusedVariables false
set_option linter.unusedSimpArgs false
set_option maxRecDepth 10000
set_option maxHeartbeats 4000000
section
variable {r B N : Nat} {l : List UInt8} {w : AV}
end
end Go.Proofs.Ytgeedikghjcebaa.Ai
