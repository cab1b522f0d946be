/- Memories that no exchange of later places touches; drawn orders that differ by such an exchange. -/
import Derived.Test.YtkgndbhflehhhaaqPqz
import Derived.Test.YtkgndbhflehhhaaqPqv
namespace Go.Proofs.Ytkgndbhflehhhaa.Ai
open Go Go.Proofs
set_option linter.unusedVariables false
set_option linter.unusedSimpArgs false
set_option maxRecDepth 10000
set_option maxHeartbeats 4000000

def RenV (m : Nat) (x : AV) : Prop := ∀ i j, m ≤ i → m ≤ j → renV i j x = x
def RenC (m : Nat) (cs : List (List AV)) : Prop := ∀ i j, m ≤ i → m ≤ j → cs.map (renVs i j) = cs
def RenO (m : Nat) (o : AObj) : Prop := ∀ i j, m ≤ i → m ≤ j → renO i j o = o
def Ren (m : Nat) (h : AHeap) : Prop := ∀ i j, m ≤ i → m ≤ j → h.map (renO i j) = h
theorem RenV.mono {m m' : Nat} {x : AV} (h : RenV m x) (hm : m ≤ m') : RenV m' x := fun i j hi hj => h i j (by omega) (by omega)
theorem RenC.mono {m m' : Nat} {x : List (List AV)} (h : RenC m x) (hm : m ≤ m') : RenC m' x := fun i j hi hj => h i j (by omega) (by omega)
theorem RenO.mono {m m' : Nat} {x : AObj} (h : RenO m x) (hm : m ≤ m') : RenO m' x := fun i j hi hj => h i j (by omega) (by omega)
theorem Ren.mono {m m' : Nat} {x : AHeap} (h : Ren m x) (hm : m ≤ m') : Ren m' x := fun i j hi hj => h i j (by omega) (by omega)
theorem RenC.append {m : Nat} {a b : List (List AV)} (ha : RenC m a) (hb : RenC m b) : RenC m (a ++ b) := fun i j hi hj => by rw [List.map_append, ha i j hi hj, hb i j hi hj]
end Go.Proofs.Ytkgndbhflehhhaa.Ai
namespace Go.Proofs.Ytkgndbhflehhhaa.Ai
open Go Go.Proofs
set_option linter.unusedVariables false
set_option linter.unusedSimpArgs false
set_option maxRecDepth 10000
set_option maxHeartbeats 4000000

structure RtOk (c : RowT) : Prop where
  l1 : c.base.length ≤ 1000000000
  l2 : c.val.length ≤ 1000000000
  l3 : c.own.length ≤ 1000000000
  l4 : c.row.length ≤ 1000000000
  b1 : ∀ x ∈ c.base, -9223372036854775808 ≤ x ∧ x ≤ 9223372036854775807
  b2 : ∀ x ∈ c.val, -9223372036854775808 ≤ x ∧ x ≤ 9223372036854775807
theorem RtOk.at {c : RowT} (h : RtOk c) (row col : Int) : -9223372036854775808 ≤ atD c row col ∧ atD c row col ≤ 9223372036854775807 := by
  unfold atD
  split
  · omega
  · split
    · omega
    · split
      · omega
      · rename_i n1 n2 n3
        refine h.b2 _ ?_
        have : (c.base.getD (c.row.getD row.toNat 0).toNat 0 + col).toNat < c.val.length := by omega
        rw [List.getD_eq_getElem?_getD, List.getElem?_eq_getElem this, Option.getD_some]
        exact List.getElem_mem _

section
variable {p : PackD} {ca cg : List AV} {w7 w54 w55 : AV} {B : Nat}
end
end Go.Proofs.Ytkgndbhflehhhaa.Ai
namespace Go.Proofs.Ytkgndbhflehhhaa.Ai
open Go Go.Proofs
set_option linter.unusedVariables false
set_option linter.unusedSimpArgs false
set_option maxRecDepth 10000
set_option maxHeartbeats 4000000

section
variable {wx wy w54 w55 : AV} {h : AHeap} {c5 : AObj}
end
end Go.Proofs.Ytkgndbhflehhhaa.Ai
namespace Go.Proofs.Ytkgndbhflehhhaa.Ai
open Go Go.Proofs
set_option linter.unusedVariables false
set_option linter.unusedSimpArgs false
set_option maxRecDepth 10000
set_option maxHeartbeats 4000000

section
variable {wx wy w54 w55 : AV} {h : AHeap}
end
end Go.Proofs.Ytkgndbhflehhhaa.Ai
namespace Go.Proofs.Ytkgndbhflehhhaa.Ai
open Go Go.Proofs
set_option linter.unusedVariables false
set_option linter.unusedSimpArgs false
set_option maxRecDepth 10000
set_option maxHeartbeats 4000000

section
variable {wx wy w54 w55 : AV} {h : AHeap}
end

section
variable {p : PackD} {ca cg : List AV}
end
end Go.Proofs.Ytkgndbhflehhhaa.Ai
