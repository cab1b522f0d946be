/- Trees: yield and reductions by the iterator. By program (mk_tr5.py). -/
import Derived.Test.YtkimloceaihplaamTA
namespace Go.Proofs.Ytkimloceaihplaa.Ai
open Go Go.Proofs
set_option linter.unusedVariables false
set_option linter.unusedSimpArgs false
set_option maxRecDepth 10000
set_option maxHeartbeats 4000000
theorem Own.cell {ys : List Int} {v : AV} {h : AHeap} (ho : Own ys v h) : cellOk v = true ∧ cellsOf v = [v] := by
 rcases ho with ⟨_, h2⟩ | ⟨_, i, ver, h2, _⟩ <;> subst h2 <;> exact ⟨rfl, rfl⟩
theorem Own.hsl {ys : List Int} {v : AV} {h : AHeap} (ho : Own ys v h) (hn : ys ≠ []) : ∃ i ver, v = .hsl i ver 0 ys.length none := by
 rcases ho with ⟨h1, _⟩ | ⟨_, i, ver, h2, _⟩
 ·exact absurd h1 hn
 ·exact ⟨i, ver, h2⟩
theorem get_len {α : Type} {h : List α} {i : Nat} {x : α} (hi : h[i]? = some x) : i < h.length := (List.getElem?_eq_some_iff.1 hi).1
end Go.Proofs.Ytkimloceaihplaa.Ai
namespace Go.Proofs.Ytkimloceaihplaa.Ai
open Go Go.Proofs
set_option linter.unusedVariables false
set_option linter.unusedSimpArgs false
set_option maxRecDepth 10000
set_option maxHeartbeats 4000000
end Go.Proofs.Ytkimloceaihplaa.Ai
