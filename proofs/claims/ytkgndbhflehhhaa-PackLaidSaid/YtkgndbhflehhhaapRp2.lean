/- Readings: rows of rows. -/
import Derived.Test.YtkgndbhflehhhaapRp1
import Derived.Test.YtkgndbhflehhhaapPlz
namespace Go.Proofs.Ytkgndbhflehhhaa
open Go.ChangeShapes Go.WideShapes Go.ChangeAt Go.RowKit Ai
set_option linter.unusedVariables false
set_option linter.unusedSimpArgs false
set_option maxRecDepth 100000

variable {H : Type} {enc : TypeId × Value → H} {w : World} {n : Nat} {cs : List Value} {d : DataW H} {ps : List MemPlace}
theorem liR_of (l : List (List Int)) : LiR l (.vsl false (l.map fun r => [.vsl false (eIs r)])) := .inr ⟨false, _, rfl, by simp, fun j hj => ⟨.vsl false (eIs l[j]), by simp [hj], .inr ⟨false, rfl⟩⟩⟩
theorem tr_rows (h : Tr enc Try.prog w n 22 cs d ps) : ∃ l : List (List Int), Cs w cs [.vsl false (l.map fun r => [.vsl false (eIs r)])] ∧ l.length ≤ maxLen := by
  obtain ⟨xs, g, _, hx⟩ := tr_slice (X := List Int) (en := fun r => [.vsl false (eIs r)]) Try.underlying22 (by rw [cInts]; omega)
    (fun k cs d ps hk hh => by obtain ⟨l, a, _, _⟩ := tr_ints hh; exact ⟨l, a⟩) h
  exact ⟨xs, g, hx⟩
/-- Rows among the arguments. -/
theorem open_rows {base : Nat} {v : Value} (hv : Value.okWide Try.prog w .any base 22 v) (h : DataW.Trod enc Try.prog w 0 (fun _ => true) true 22 v d ps) :
    ∃ l : List (List Int), LiR l (.vsl false (l.map fun r => [.vsl false (eIs r)])) ∧ PRep (fun _ => True) w v (.vsl false (l.map fun r => [.vsl false (eIs r)])) := by
  obtain ⟨n, h⟩ := h
  have hna : ∀ cs, v ≠ .agg cs := by
    rintro cs rfl
    unfold Value.okWide at hv
    rw [Try.underlying22] at hv
    unfold Cell.okWide at hv
    rw [Try.underlying22] at hv
    unfold Cell.ok at hv
    rw [Try.underlying22] at hv
    exact hv
  obtain ⟨l, hc, h1⟩ := tr_rows h
  refine ⟨l, liR_of l, ?_⟩
  rw [cells_one hna] at hc
  have := hc.2 0 _ rfl
  simpa using this
end Go.Proofs.Ytkgndbhflehhhaa
