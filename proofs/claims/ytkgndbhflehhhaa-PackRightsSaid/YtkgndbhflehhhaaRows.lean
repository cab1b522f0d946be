/-
  No cell of these rows narrows 'for every input' (looked for: loops, veiled, ifaces, maps, wideKeys, modest, calm, conditions, laid).
  DERIVED. THE GIVEN ROWS OF THIS SEAT. 7 by the template 'for every input the law returns true; each argument reads behind the call as it read before'; 0 by the template 'total and deterministic' (their statements: YtkgndbhflehhhaaTotals.lean).
  GIVEN WITH THE SEED: the statements are not yours to turn. If you find one false, say at which input.
  Laid BY PROGRAM, IN A SANDBOX (cutbox-rows.mjs): the forced cells as the released guide's own fill.sh prints them over the translation 6a32d27192e95b85… (all of the seat's roots in one cut). By AI agents, Wed Nov 11 2026. No macro, syntax, notation, axiom, sorry.
-/
import Derived.Test.YtkgndbhflehhhaaChecked
import GoSem.Claim
import GoSem.ClaimJoined
import GoSem.ClaimMapViews
import Derived.JoinedTies
import Derived.KernelRfl
namespace Go.Proofs.Ytkgndbhflehhhaa
/- THE CELL 'sum', in the pinned program and in every row, IS THE sha256 OF THE DUMP (.gsa) THAT YtkgndbhflehhhaaProg.lean LOADS. Nothing in Lean hashes anything: it is a label: what it is worth is what the hold of that sum in a sandbox is worth. -/
noncomputable def Try.pinned : Pinned := { name := "ytkgndbhflehhhaa", sum := "6a32d27192e95b85d756e559f362248ae5dcc69280770fe7e7cf55c60a13f465", checked := Try.checked }
namespace Rows
def none {H : Type} : Left H := { results := [], args := [] }

/-- 'arboristlaw32.PackLays': WHATEVER THE INPUT: true; the input reads as it did. -/
def packLaysSpec : ChangeSpec := { name := "packLays", fn := fun _ => fun
  | [d] => { results := [.lit (.bool true)], args := [d] }
  | _ => none }
def packLaysRow : OpenClaim := { program := "ytkgndbhflehhhaa", sum := "6a32d27192e95b85d756e559f362248ae5dcc69280770fe7e7cf55c60a13f465", func := "arborist/arboristlaw32.PackLays", spec := "packLays", unfollowed := true, recurses := true, apart := false }
def PackLaysSaid : Prop := packLaysRow.holds Try.pinned (OpenSpec.ofChange packLaysSpec)

/-- ITS FALSE NEIGHBOUR: 'it returns false'. Refute it at one input. -/
def packLaysWrong : ChangeSpec := { name := "packLays", fn := fun _ => fun
  | [d] => { results := [.lit (.bool false)], args := [d] }
  | _ => none }
def PackLaysWrongFalsely : Prop := packLaysRow.holds Try.pinned (OpenSpec.ofChange packLaysWrong)

/-- 'arboristlaw32.PackAt': WHATEVER THE INPUT: true; the input reads as it did. -/
def packAtSpec : ChangeSpec := { name := "packAt", fn := fun _ => fun
  | [d1, d2, d3] => { results := [.lit (.bool true)], args := [d1, d2, d3] }
  | _ => none }
def packAtRow : OpenClaim := { program := "ytkgndbhflehhhaa", sum := "6a32d27192e95b85d756e559f362248ae5dcc69280770fe7e7cf55c60a13f465", func := "arborist/arboristlaw32.PackAt", spec := "packAt", unfollowed := true, recurses := true, apart := false }
def PackAtSaid : Prop := packAtRow.holds Try.pinned (OpenSpec.ofChange packAtSpec)

/-- ITS FALSE NEIGHBOUR: 'it returns false'. Refute it at one input. -/
def packAtWrong : ChangeSpec := { name := "packAt", fn := fun _ => fun
  | [d1, d2, d3] => { results := [.lit (.bool false)], args := [d1, d2, d3] }
  | _ => none }
def PackAtWrongFalsely : Prop := packAtRow.holds Try.pinned (OpenSpec.ofChange packAtWrong)

/-- 'arboristlaw32.PackOf': WHATEVER THE INPUT: true; the input reads as it did. -/
def packOfSpec : ChangeSpec := { name := "packOf", fn := fun _ => fun
  | [d] => { results := [.lit (.bool true)], args := [d] }
  | _ => none }
def packOfRow : OpenClaim := { program := "ytkgndbhflehhhaa", sum := "6a32d27192e95b85d756e559f362248ae5dcc69280770fe7e7cf55c60a13f465", func := "arborist/arboristlaw32.PackOf", spec := "packOf", unfollowed := true, recurses := true, apart := false }
def PackOfSaid : Prop := packOfRow.holds Try.pinned (OpenSpec.ofChange packOfSpec)

/-- ITS FALSE NEIGHBOUR: 'it returns false'. Refute it at one input. -/
def packOfWrong : ChangeSpec := { name := "packOf", fn := fun _ => fun
  | [d] => { results := [.lit (.bool false)], args := [d] }
  | _ => none }
def PackOfWrongFalsely : Prop := packOfRow.holds Try.pinned (OpenSpec.ofChange packOfWrong)

/-- 'arboristlaw32.PackRights': WHATEVER THE INPUT: true; the input reads as it did. -/
def packRightsSpec : ChangeSpec := { name := "packRights", fn := fun _ => fun
  | [d] => { results := [.lit (.bool true)], args := [d] }
  | _ => none }
def packRightsRow : OpenClaim := { program := "ytkgndbhflehhhaa", sum := "6a32d27192e95b85d756e559f362248ae5dcc69280770fe7e7cf55c60a13f465", func := "arborist/arboristlaw32.PackRights", spec := "packRights", unfollowed := true, recurses := true, apart := false }
def PackRightsSaid : Prop := packRightsRow.holds Try.pinned (OpenSpec.ofChange packRightsSpec)

/-- ITS FALSE NEIGHBOUR: 'it returns false'. Refute it at one input. -/
def packRightsWrong : ChangeSpec := { name := "packRights", fn := fun _ => fun
  | [d] => { results := [.lit (.bool false)], args := [d] }
  | _ => none }
def PackRightsWrongFalsely : Prop := packRightsRow.holds Try.pinned (OpenSpec.ofChange packRightsWrong)

/-- 'arboristlaw32.PackBack': WHATEVER THE INPUT: true; the input reads as it did. -/
def packBackSpec : ChangeSpec := { name := "packBack", fn := fun _ => fun
  | [d] => { results := [.lit (.bool true)], args := [d] }
  | _ => none }
def packBackRow : OpenClaim := { program := "ytkgndbhflehhhaa", sum := "6a32d27192e95b85d756e559f362248ae5dcc69280770fe7e7cf55c60a13f465", func := "arborist/arboristlaw32.PackBack", spec := "packBack", unfollowed := true, recurses := true, apart := false }
def PackBackSaid : Prop := packBackRow.holds Try.pinned (OpenSpec.ofChange packBackSpec)

/-- ITS FALSE NEIGHBOUR: 'it returns false'. Refute it at one input. -/
def packBackWrong : ChangeSpec := { name := "packBack", fn := fun _ => fun
  | [d] => { results := [.lit (.bool false)], args := [d] }
  | _ => none }
def PackBackWrongFalsely : Prop := packBackRow.holds Try.pinned (OpenSpec.ofChange packBackWrong)

/-- 'arboristlaw32.PackReads': WHATEVER THE INPUT: true; the input reads as it did. -/
def packReadsSpec : ChangeSpec := { name := "packReads", fn := fun _ => fun
  | [d1, d2] => { results := [.lit (.bool true)], args := [d1, d2] }
  | _ => none }
def packReadsRow : OpenClaim := { program := "ytkgndbhflehhhaa", sum := "6a32d27192e95b85d756e559f362248ae5dcc69280770fe7e7cf55c60a13f465", func := "arborist/arboristlaw32.PackReads", spec := "packReads", unfollowed := true, recurses := true, apart := false }
def PackReadsSaid : Prop := packReadsRow.holds Try.pinned (OpenSpec.ofChange packReadsSpec)

/-- ITS FALSE NEIGHBOUR: 'it returns false'. Refute it at one input. -/
def packReadsWrong : ChangeSpec := { name := "packReads", fn := fun _ => fun
  | [d1, d2] => { results := [.lit (.bool false)], args := [d1, d2] }
  | _ => none }
def PackReadsWrongFalsely : Prop := packReadsRow.holds Try.pinned (OpenSpec.ofChange packReadsWrong)

/-- 'arboristlaw32.PackLaid': WHATEVER THE INPUT: true; the input reads as it did. -/
def packLaidSpec : ChangeSpec := { name := "packLaid", fn := fun _ => fun
  | [d] => { results := [.lit (.bool true)], args := [d] }
  | _ => none }
def packLaidRow : OpenClaim := { program := "ytkgndbhflehhhaa", sum := "6a32d27192e95b85d756e559f362248ae5dcc69280770fe7e7cf55c60a13f465", func := "arborist/arboristlaw32.PackLaid", spec := "packLaid", unfollowed := true, recurses := true, apart := false }
def PackLaidSaid : Prop := packLaidRow.holds Try.pinned (OpenSpec.ofChange packLaidSpec)

/-- ITS FALSE NEIGHBOUR: 'it returns false'. Refute it at one input. -/
def packLaidWrong : ChangeSpec := { name := "packLaid", fn := fun _ => fun
  | [d] => { results := [.lit (.bool false)], args := [d] }
  | _ => none }
def PackLaidWrongFalsely : Prop := packLaidRow.holds Try.pinned (OpenSpec.ofChange packLaidWrong)

/- THE SECOND FORM. 'bulk': how many values and letters a reading holds, each counted each time it is reached (what is shared counts as often as it is met; a slice's spare places count too). A statement '..UptoSaid' is the law's where the arguments, and the package variables that the reading takes, are together of bulk at most 1048576: NARROWER than '..Said'. Prove '..Said' where nothing that the law and all that it calls make is longer than what came in: it says more and counts as full. Else prove '..UptoSaid'. A law counts once. -/
mutual
def uptoBulk {H : Type} : DataW H → Nat
  | .lit (.string bytes) => bytes.length + 1
  | .lit _ => 1
  | .nil => 1
  | .ptr d => uptoBulk d + 1
  | .slice elems spare => uptoBulkAll elems + uptoBulkAll spare + 1
  | .agg parts => uptoBulkAll parts + 1
  | .iface _ d => uptoBulk d + 1
  | .map entries => uptoBulkEntries entries + 1
  | .held _ => 1
def uptoBulkAll {H : Type} : List (DataW H) → Nat
  | [] => 0
  | d :: r => uptoBulk d + uptoBulkAll r
def uptoBulkEntries {H : Type} : List (Lit × DataW H) → Nat
  | [] => 0
  | x :: r => uptoBulkEntry x + uptoBulkEntries r
def uptoBulkEntry {H : Type} : Lit × DataW H → Nat
  | (.string bytes, d) => bytes.length + uptoBulk d + 1
  | (_, d) => uptoBulk d + 1
 end
def uptoSmall : (H : Type) → List (DataW H) → Bool := fun _ ds => decide (uptoBulkAll ds ≤ 1048576)
def OpenSpec.upto (s : _root_.Go.ChangeSpec) : _root_.Go.OpenSpec := { _root_.Go.OpenSpec.ofChange s with cond := some uptoSmall }

/-- 'arboristlaw32.PackLays', WHERE WHAT IT READS IS OF BULK AT MOST 1048576: true; the input reads as it did. -/
def packLaysUptoRow : OpenClaim := { program := "ytkgndbhflehhhaa", sum := "6a32d27192e95b85d756e559f362248ae5dcc69280770fe7e7cf55c60a13f465", func := "arborist/arboristlaw32.PackLays", spec := "packLays", unfollowed := true, recurses := true, apart := false, narrowed := true }
def PackLaysUptoSaid : Prop := packLaysUptoRow.holds Try.pinned (OpenSpec.upto packLaysSpec)

/-- 'arboristlaw32.PackAt', WHERE WHAT IT READS IS OF BULK AT MOST 1048576: true; the input reads as it did. -/
def packAtUptoRow : OpenClaim := { program := "ytkgndbhflehhhaa", sum := "6a32d27192e95b85d756e559f362248ae5dcc69280770fe7e7cf55c60a13f465", func := "arborist/arboristlaw32.PackAt", spec := "packAt", unfollowed := true, recurses := true, apart := false, narrowed := true }
def PackAtUptoSaid : Prop := packAtUptoRow.holds Try.pinned (OpenSpec.upto packAtSpec)

/-- 'arboristlaw32.PackOf', WHERE WHAT IT READS IS OF BULK AT MOST 1048576: true; the input reads as it did. -/
def packOfUptoRow : OpenClaim := { program := "ytkgndbhflehhhaa", sum := "6a32d27192e95b85d756e559f362248ae5dcc69280770fe7e7cf55c60a13f465", func := "arborist/arboristlaw32.PackOf", spec := "packOf", unfollowed := true, recurses := true, apart := false, narrowed := true }
def PackOfUptoSaid : Prop := packOfUptoRow.holds Try.pinned (OpenSpec.upto packOfSpec)

/-- 'arboristlaw32.PackRights', WHERE WHAT IT READS IS OF BULK AT MOST 1048576: true; the input reads as it did. -/
def packRightsUptoRow : OpenClaim := { program := "ytkgndbhflehhhaa", sum := "6a32d27192e95b85d756e559f362248ae5dcc69280770fe7e7cf55c60a13f465", func := "arborist/arboristlaw32.PackRights", spec := "packRights", unfollowed := true, recurses := true, apart := false, narrowed := true }
def PackRightsUptoSaid : Prop := packRightsUptoRow.holds Try.pinned (OpenSpec.upto packRightsSpec)

/-- 'arboristlaw32.PackBack', WHERE WHAT IT READS IS OF BULK AT MOST 1048576: true; the input reads as it did. -/
def packBackUptoRow : OpenClaim := { program := "ytkgndbhflehhhaa", sum := "6a32d27192e95b85d756e559f362248ae5dcc69280770fe7e7cf55c60a13f465", func := "arborist/arboristlaw32.PackBack", spec := "packBack", unfollowed := true, recurses := true, apart := false, narrowed := true }
def PackBackUptoSaid : Prop := packBackUptoRow.holds Try.pinned (OpenSpec.upto packBackSpec)

/-- 'arboristlaw32.PackReads', WHERE WHAT IT READS IS OF BULK AT MOST 1048576: true; the input reads as it did. -/
def packReadsUptoRow : OpenClaim := { program := "ytkgndbhflehhhaa", sum := "6a32d27192e95b85d756e559f362248ae5dcc69280770fe7e7cf55c60a13f465", func := "arborist/arboristlaw32.PackReads", spec := "packReads", unfollowed := true, recurses := true, apart := false, narrowed := true }
def PackReadsUptoSaid : Prop := packReadsUptoRow.holds Try.pinned (OpenSpec.upto packReadsSpec)

/-- 'arboristlaw32.PackLaid', WHERE WHAT IT READS IS OF BULK AT MOST 1048576: true; the input reads as it did. -/
def packLaidUptoRow : OpenClaim := { program := "ytkgndbhflehhhaa", sum := "6a32d27192e95b85d756e559f362248ae5dcc69280770fe7e7cf55c60a13f465", func := "arborist/arboristlaw32.PackLaid", spec := "packLaid", unfollowed := true, recurses := true, apart := false, narrowed := true }
def PackLaidUptoSaid : Prop := packLaidUptoRow.holds Try.pinned (OpenSpec.upto packLaidSpec)

end Rows
end Go.Proofs.Ytkgndbhflehhhaa
