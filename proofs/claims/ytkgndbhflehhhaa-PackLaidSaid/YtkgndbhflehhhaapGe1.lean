/- General facts about memory in walks: objects that stay, slices of numbers in any form. -/
import Derived.Test.YtkgndbhflehhhaapAi28
import Derived.Test.YtkgndbhflehhhaapOw1
namespace Go.Proofs.Ytkgndbhflehhhaa.Ai
open Go
set_option linter.unusedVariables false
set_option linter.unusedSimpArgs false

theorem get_set_ne {α : Type} {h : List α} {i j : Nat} {x y : α} (hj : h[j]? = some x) (hij : i ≠ j) : (h.set i y)[j]? = some x := by rw [List.getElem?_set_ne hij]; exact hj
theorem get_set_eq {α : Type} {h : List α} {i : Nat} {x y : α} (hi : h[i]? = some x) : (h.set i y)[i]? = some y := List.getElem?_set_self (List.getElem?_eq_some_iff.1 hi).1
theorem get_len {α : Type} {h : List α} {i : Nat} {x : α} (hi : h[i]? = some x) : i < h.length := (List.getElem?_eq_some_iff.1 hi).1
theorem an_p (h : AHeap) (i v e o : Nat) : anil h (.ptr i v e o) = some (.ptr i v e o) := rfl
theorem hap_get0 {α : Type} (h l : List α) : (h ++ l)[h.length]? = l[0]? := by rw [List.getElem?_append_right (Nat.le_refl _), Nat.sub_self]
theorem hap_get {α : Type} (h l : List α) (k : Nat) : (h ++ l)[h.length + k]? = l[k]? := by rw [List.getElem?_append_right (by omega), Nat.add_sub_cancel_left]
theorem hap_set0 {α : Type} (h l : List α) (x : α) : (h ++ l).set h.length x = h ++ l.set 0 x := by rw [List.set_append_right _ _ (Nat.le_refl _), Nat.sub_self]
theorem hap_set {α : Type} (h l : List α) (k : Nat) (x : α) : (h ++ l).set (h.length + k) x = h ++ l.set k x := by rw [List.set_append_right _ _ (by omega), Nat.add_sub_cancel_left]

theorem ix_hv {h : AHeap} {i ver n : Nat} {sz : Nat} {x : Bool} {rows : List (List AV)} {c : Option Nat} (hi : h[i]? = some (.arr ver sz x rows)) {k : IntKind} {j : Nat} (hj : j < n) : aindexAddr h sz (.hsl i ver 0 n c) (.int k j) = some (.ptr i ver j 0) := by
  have : (0 : Int) ≤ j ∧ (j : Int) < n := by omega
  simp [aindexAddr, getArr, hi, hj]
theorem eIs_get (l : List Int) (j : Nat) (hj : j < l.length) : (eIs l)[j]? = some [.int .i64 l[j]] := by simp [eIs, eI, hj]
theorem eIs_set (l : List Int) (j : Nat) (n : Int) : (eIs l).set j [.int .i64 n] = eIs (l.set j n) := by simp [eIs, eI, List.map_set]

/-- A row of numbers in memory: reading and writing one. -/
theorem ldI {h : AHeap} {i ver : Nat} {x : Bool} {l : List Int} {tl : List (List AV)} (hi : h[i]? = some (.arr ver 1 x (eIs l ++ tl))) {j : Nat} (hj : j < l.length) : aload h 1 false (.ptr i ver j 0) = some (.int .i64 l[j]) := by
  have e : (eIs l ++ tl)[j]? = some [.int .i64 l[j]] := by rw [List.getElem?_append_left (by rw [Zep]; exact hj), eIs_get l j hj]
  rw [ld_p h 1 i ver j 0 false 1 x _ _ hi e]
  rfl
theorem stI {h : AHeap} {i ver : Nat} {x : Bool} {l : List Int} {tl : List (List AV)} (hi : h[i]? = some (.arr ver 1 x (eIs l ++ tl))) {j : Nat} (hj : j < l.length) (n : Int) : astore h 1 (.ptr i ver j 0) (.int .i64 n) = some (h.set i (.arr ver 1 x (eIs (l.set j n) ++ tl))) := by
  have e : (eIs l ++ tl)[j]? = some [.int .i64 l[j]] := by rw [List.getElem?_append_left (by rw [Zep]; exact hj), eIs_get l j hj]
  rw [st_p h 1 i ver j 0 _ 1 x _ _ hi e rfl (by simp) rfl]
  have e2 : (eIs l ++ tl).set j (putCells [AV.int .i64 l[j]] 0 (cellsOf (.int .i64 n))) = eIs (l.set j n) ++ tl := by
    rw [List.set_append_left _ _ (by rw [Zep]; exact hj)]
    have : putCells [AV.int .i64 l[j]] 0 (cellsOf (.int .i64 n)) = [.int .i64 n] := rfl
    rw [this, eIs_set]
  rw [e2]
theorem set_same {α : Type} {h : List α} {i : Nat} {x : α} (e : h[i]? = some x) : h.set i x = h := by
  obtain ⟨h1, h2⟩ := List.getElem?_eq_some_iff.1 e
  rw [← h2]; exact List.set_getElem_self h1
theorem set_set {α : Type} (h : List α) (i : Nat) (x y : α) : (h.set i x).set i y = h.set i y := List.set_set ..
end Go.Proofs.Ytkgndbhflehhhaa.Ai
