/-
  No cell of these rows narrows 'for every input' (looked for: loops, veiled, ifaces, maps, wideKeys, modest, calm, conditions, laid).
  DERIVED. THE GIVEN ROWS OF THIS SEAT. 4 by the template 'for every input the law returns true; each argument reads behind the call as it read before'; 0 by the template 'total and deterministic' (their statements: YtgeedikghjcebaaTotals.lean).
  GIVEN WITH THE SEED: the statements are not yours to turn. If you find one false, say at which input.
  Laid BY PROGRAM, IN A SANDBOX (cutbox-rows.mjs): the forced cells as the released guide's own fill.sh prints them over the translation 50d0a2869e24ad52… (all of the seat's roots in one cut). By AI agents, Wed Nov 11 2026. No macro, syntax, notation, axiom, sorry.
-/
import Derived.Test.YtgeedikghjcebaaChecked
import GoSem.Claim
import GoSem.ClaimJoined
import GoSem.ClaimMapViews
import Derived.JoinedTies
import Derived.KernelRfl
namespace Go.Proofs.Ytgeedikghjcebaa
/- THE CELL 'sum', in the pinned program and in every row, IS THE sha256 OF THE DUMP (.gsa) THAT YtgeedikghjcebaaProg.lean LOADS. Nothing in Lean hashes anything: it is a label: what it is worth is what the hold of that sum in a sandbox is worth. -/
noncomputable def Try.pinned : Pinned := { name := "ytgeedikghjcebaa", sum := "50d0a2869e24ad52c55b8db042c849cf40ef3d98cf8d3a6c2ddcba2fa7b2f09f", checked := Try.checked }
namespace Rows
def none {H : Type} : Left H := { results := [], args := [] }

/-- 'arboristlaw33.TablefileTakes': WHATEVER THE INPUT: true; the input reads as it did. -/
def tablefileTakesSpec : ChangeSpec := { name := "tablefileTakes", fn := fun _ => fun
  | [d] => { results := [.lit (.bool true)], args := [d] }
  | _ => none }
def tablefileTakesRow : OpenClaim := { program := "ytgeedikghjcebaa", sum := "50d0a2869e24ad52c55b8db042c849cf40ef3d98cf8d3a6c2ddcba2fa7b2f09f", func := "arborist/arboristlaw33.TablefileTakes", spec := "tablefileTakes", unfollowed := true, recurses := true, apart := false }
def TablefileTakesSaid : Prop := tablefileTakesRow.holds Try.pinned (OpenSpec.ofChange tablefileTakesSpec)

/-- ITS FALSE NEIGHBOUR: 'it returns false'. Refute it at one input. -/
def tablefileTakesWrong : ChangeSpec := { name := "tablefileTakes", fn := fun _ => fun
  | [d] => { results := [.lit (.bool false)], args := [d] }
  | _ => none }
def TablefileTakesWrongFalsely : Prop := tablefileTakesRow.holds Try.pinned (OpenSpec.ofChange tablefileTakesWrong)

/-- 'arboristlaw33.TablefileBytes': WHATEVER THE INPUT: true; the input reads as it did. -/
def tablefileBytesSpec : ChangeSpec := { name := "tablefileBytes", fn := fun _ => fun
  | [d1, d2] => { results := [.lit (.bool true)], args := [d1, d2] }
  | _ => none }
def tablefileBytesRow : OpenClaim := { program := "ytgeedikghjcebaa", sum := "50d0a2869e24ad52c55b8db042c849cf40ef3d98cf8d3a6c2ddcba2fa7b2f09f", func := "arborist/arboristlaw33.TablefileBytes", spec := "tablefileBytes", unfollowed := true, recurses := true, apart := false }
def TablefileBytesSaid : Prop := tablefileBytesRow.holds Try.pinned (OpenSpec.ofChange tablefileBytesSpec)

/-- ITS FALSE NEIGHBOUR: 'it returns false'. Refute it at one input. -/
def tablefileBytesWrong : ChangeSpec := { name := "tablefileBytes", fn := fun _ => fun
  | [d1, d2] => { results := [.lit (.bool false)], args := [d1, d2] }
  | _ => none }
def TablefileBytesWrongFalsely : Prop := tablefileBytesRow.holds Try.pinned (OpenSpec.ofChange tablefileBytesWrong)

/-- 'arboristlaw33.TablefileBack': WHATEVER THE INPUT: true; the input reads as it did. -/
def tablefileBackSpec : ChangeSpec := { name := "tablefileBack", fn := fun _ => fun
  | [d1, d2] => { results := [.lit (.bool true)], args := [d1, d2] }
  | _ => none }
def tablefileBackRow : OpenClaim := { program := "ytgeedikghjcebaa", sum := "50d0a2869e24ad52c55b8db042c849cf40ef3d98cf8d3a6c2ddcba2fa7b2f09f", func := "arborist/arboristlaw33.TablefileBack", spec := "tablefileBack", unfollowed := true, recurses := true, apart := false }
def TablefileBackSaid : Prop := tablefileBackRow.holds Try.pinned (OpenSpec.ofChange tablefileBackSpec)

/-- ITS FALSE NEIGHBOUR: 'it returns false'. Refute it at one input. -/
def tablefileBackWrong : ChangeSpec := { name := "tablefileBack", fn := fun _ => fun
  | [d1, d2] => { results := [.lit (.bool false)], args := [d1, d2] }
  | _ => none }
def TablefileBackWrongFalsely : Prop := tablefileBackRow.holds Try.pinned (OpenSpec.ofChange tablefileBackWrong)

/-- 'arboristlaw33.TablefileSpoilt': WHATEVER THE INPUT: true; the input reads as it did. -/
def tablefileSpoiltSpec : ChangeSpec := { name := "tablefileSpoilt", fn := fun _ => fun
  | [d1, d2, d3] => { results := [.lit (.bool true)], args := [d1, d2, d3] }
  | _ => none }
def tablefileSpoiltRow : OpenClaim := { program := "ytgeedikghjcebaa", sum := "50d0a2869e24ad52c55b8db042c849cf40ef3d98cf8d3a6c2ddcba2fa7b2f09f", func := "arborist/arboristlaw33.TablefileSpoilt", spec := "tablefileSpoilt", unfollowed := true, recurses := true, apart := false }
def TablefileSpoiltSaid : Prop := tablefileSpoiltRow.holds Try.pinned (OpenSpec.ofChange tablefileSpoiltSpec)

/-- ITS FALSE NEIGHBOUR: 'it returns false'. Refute it at one input. -/
def tablefileSpoiltWrong : ChangeSpec := { name := "tablefileSpoilt", fn := fun _ => fun
  | [d1, d2, d3] => { results := [.lit (.bool false)], args := [d1, d2, d3] }
  | _ => none }
def TablefileSpoiltWrongFalsely : Prop := tablefileSpoiltRow.holds Try.pinned (OpenSpec.ofChange tablefileSpoiltWrong)

/- THE SECOND FORM. 'bulk': how many values and letters a reading holds, each counted each time it is reached (what is shared counts as often as it is met; a slice's spare places count too). A statement '..UptoSaid' is the law's where the arguments, and the package variables that the reading takes, are together of bulk at most 1048576: NARROWER than '..Said'. Prove '..Said' where nothing that the law and all that it calls make is longer than what came in: it says more and counts as full. Else prove '..UptoSaid'. A law counts once. -/
mutual
def uptoBulk {H : Type} : DataW H → Nat
  | .lit (.string bytes) => bytes.length + 1
  | .lit _ => 1
  | .nil => 1
  | .ptr d => uptoBulk d + 1
  | .slice elems spare => uptoBulkAll elems + uptoBulkAll spare + 1
  | .agg parts => uptoBulkAll parts + 1
  | .iface _ d => uptoBulk d + 1
  | .map entries => uptoBulkEntries entries + 1
  | .held _ => 1
def uptoBulkAll {H : Type} : List (DataW H) → Nat
  | [] => 0
  | d :: r => uptoBulk d + uptoBulkAll r
def uptoBulkEntries {H : Type} : List (Lit × DataW H) → Nat
  | [] => 0
  | x :: r => uptoBulkEntry x + uptoBulkEntries r
def uptoBulkEntry {H : Type} : Lit × DataW H → Nat
  | (.string bytes, d) => bytes.length + uptoBulk d + 1
  | (_, d) => uptoBulk d + 1
 end
def uptoSmall : (H : Type) → List (DataW H) → Bool := fun _ ds => decide (uptoBulkAll ds ≤ 1048576)
def OpenSpec.upto (s : _root_.Go.ChangeSpec) : _root_.Go.OpenSpec := { _root_.Go.OpenSpec.ofChange s with cond := some uptoSmall }

/-- 'arboristlaw33.TablefileTakes', WHERE WHAT IT READS IS OF BULK AT MOST 1048576: true; the input reads as it did. -/
def tablefileTakesUptoRow : OpenClaim := { program := "ytgeedikghjcebaa", sum := "50d0a2869e24ad52c55b8db042c849cf40ef3d98cf8d3a6c2ddcba2fa7b2f09f", func := "arborist/arboristlaw33.TablefileTakes", spec := "tablefileTakes", unfollowed := true, recurses := true, apart := false, narrowed := true }
def TablefileTakesUptoSaid : Prop := tablefileTakesUptoRow.holds Try.pinned (OpenSpec.upto tablefileTakesSpec)

/-- 'arboristlaw33.TablefileBytes', WHERE WHAT IT READS IS OF BULK AT MOST 1048576: true; the input reads as it did. -/
def tablefileBytesUptoRow : OpenClaim := { program := "ytgeedikghjcebaa", sum := "50d0a2869e24ad52c55b8db042c849cf40ef3d98cf8d3a6c2ddcba2fa7b2f09f", func := "arborist/arboristlaw33.TablefileBytes", spec := "tablefileBytes", unfollowed := true, recurses := true, apart := false, narrowed := true }
def TablefileBytesUptoSaid : Prop := tablefileBytesUptoRow.holds Try.pinned (OpenSpec.upto tablefileBytesSpec)

/-- 'arboristlaw33.TablefileBack', WHERE WHAT IT READS IS OF BULK AT MOST 1048576: true; the input reads as it did. -/
def tablefileBackUptoRow : OpenClaim := { program := "ytgeedikghjcebaa", sum := "50d0a2869e24ad52c55b8db042c849cf40ef3d98cf8d3a6c2ddcba2fa7b2f09f", func := "arborist/arboristlaw33.TablefileBack", spec := "tablefileBack", unfollowed := true, recurses := true, apart := false, narrowed := true }
def TablefileBackUptoSaid : Prop := tablefileBackUptoRow.holds Try.pinned (OpenSpec.upto tablefileBackSpec)

/-- 'arboristlaw33.TablefileSpoilt', WHERE WHAT IT READS IS OF BULK AT MOST 1048576: true; the input reads as it did. -/
def tablefileSpoiltUptoRow : OpenClaim := { program := "ytgeedikghjcebaa", sum := "50d0a2869e24ad52c55b8db042c849cf40ef3d98cf8d3a6c2ddcba2fa7b2f09f", func := "arborist/arboristlaw33.TablefileSpoilt", spec := "tablefileSpoilt", unfollowed := true, recurses := true, apart := false, narrowed := true }
def TablefileSpoiltUptoSaid : Prop := tablefileSpoiltUptoRow.holds Try.pinned (OpenSpec.upto tablefileSpoiltSpec)

end Rows
end Go.Proofs.Ytgeedikghjcebaa
