/- A region in whatever order, decided when it is run: the part without the model. -/
import Derived.Test.YtkimloceaihplaaAi17
namespace Go.Proofs.Ytkimloceaihplaa.Ai
open Go
set_option linter.unusedVariables false
set_option linter.unusedSimpArgs false

/-- Every order ends in s'. -/
def AnyTo (run : Nat → St → Option St) (ws : List (List Nat)) : Nat → List Bool → St → St → Prop
  | 0, listed, s, s' => rdy ws listed = [] ∧ s = s'
  | n + 1, listed, s, s' => (rdy ws listed = [] → s = s') ∧ ∀ i ∈ rdy ws listed, ∃ u, run i s = some u ∧ AnyTo run ws n (listed.set i true) u s'

theorem mem_rdy {ws : List (List Nat)} {listed : List Bool} {i : Nat} : i ∈ rdy ws listed ↔ i < ws.length ∧ listed.getD i true = false ∧ ∀ k ∈ ws.getD i [], listed.getD k false = true := by
  simp [rdy, and_assoc]

theorem getD_set_ne' {l : List Bool} {i j : Nat} (h : i ≠ j) (d b : Bool) : (l.set i b).getD j d = l.getD j d := by
  simp [List.getD_eq_getElem?_getD, List.getElem?_set_ne h]

theorem getD_set_true {l : List Bool} {i j : Nat} (d : Bool) (h : l.getD j d = true) : (l.set i true).getD j d = true := by
  by_cases e : i = j
  · subst e
    rw [List.getD_eq_getElem?_getD, List.getElem?_set] at *
    simp only [if_true]
    split
    · rfl
    · rename_i hlt
      rw [List.getElem?_eq_none (by omega)] at h
      exact h
  · rw [getD_set_ne' e]; exact h

theorem rdy_set {ws : List (List Nat)} {listed : List Bool} {i j : Nat} (hj : j ∈ rdy ws listed) (h : j ≠ i) : j ∈ rdy ws (listed.set i true) := by
  obtain ⟨h1, h2, h3⟩ := mem_rdy.1 hj
  exact mem_rdy.2 ⟨h1, by rw [getD_set_ne' (Ne.symm h)]; exact h2, fun k hk => getD_set_true _ (h3 k hk)⟩

theorem anyTo_first {run : Nat → St → Option St} {ws : List (List Nat)} {sw : Nat → Nat → Bool} (hsw : ∀ i j s u v, sw i j = true → run i s = some u → run j u = some v → ∃ z, run j s = some z ∧ run i z = some v) {i : Nat} {s' : St} :
    ∀ (n : Nat) (listed : List Bool) (s u : St), (∀ j, j < ws.length → j ≠ i → listed.getD j true = false → i ∉ ws.getD j [] → sw i j = true) → i ∈ rdy ws listed → run i s = some u → AnyTo run ws n (listed.set i true) u s' → AnyTo run ws (n + 1) listed s s' := by
  intro n
  induction n with
  | zero =>
    intro listed s u hf hi hr H
    refine ⟨fun h => (by rw [h] at hi; cases hi), fun j hj => ?_⟩
    by_cases e : j = i
    · subst e; exact ⟨u, hr, H⟩
    · have := rdy_set hj e
      rw [H.1] at this; cases this
  | succ n ih =>
    intro listed s u hf hi hr H
    refine ⟨fun h => (by rw [h] at hi; cases hi), fun j hj => ?_⟩
    by_cases e : j = i
    · subst e; exact ⟨u, hr, H⟩
    · obtain ⟨v, h1, h2⟩ := H.2 j (rdy_set hj e)
      obtain ⟨j1, j2, j3⟩ := mem_rdy.1 hj
      obtain ⟨i1, i2, i3⟩ := mem_rdy.1 hi
      have hnot : i ∉ ws.getD j [] := fun hm => by
        have := j3 i hm
        have hl : i < listed.length := by
          rcases Nat.lt_or_ge i listed.length with h | h
          · exact h
          · rw [List.getD_eq_getElem?_getD, List.getElem?_eq_none h] at this; cases this
        rw [List.getD_eq_getElem?_getD, List.getElem?_eq_getElem hl] at this i2
        simp at this i2
        rw [this] at i2; cases i2
      obtain ⟨z, k1, k2⟩ := hsw i j s u v (hf j j1 e j2 hnot) hr h1
      refine ⟨z, k1, ih (listed.set j true) z v (fun k hk hki hl hn => hf k hk hki ?_ hn) (rdy_set hi (Ne.symm e)) k2 ?_⟩
      · by_cases ejk : j = k
        · subst ejk; exact j2
        · rw [getD_set_ne' ejk] at hl; exact hl
      · rw [List.set_comm _ _ e]; exact h2

theorem evalDraw_ok {run : Nat → St → Option St} {ws : List (List Nat)} {sw : Nat → Nat → Bool} (hsw : ∀ i j s u v, sw i j = true → run i s = some u → run j u = some v → ∃ z, run j s = some z ∧ run i z = some v) :
    ∀ (n : Nat) (listed : List Bool) (s s' : St), evalDraw run ws sw n listed s = some s' → AnyTo run ws n listed s s'
  | 0, listed, s, s', h => by
    simp only [evalDraw] at h
    split at h
    · rename_i hr; cases h; exact ⟨hr, rfl⟩
    · cases h
  | n + 1, listed, s, s', h => by
    simp only [evalDraw] at h
    split at h
    · rename_i i hf
      have hi : i ∈ rdy ws listed := List.mem_of_find?_eq_some hf
      have hok := List.find?_some hf
      cases hr : run i s with
      | none => simp [hr] at h
      | some u =>
        simp only [hr, Option.bind_some] at h
        refine anyTo_first hsw n listed s u (fun j hj hji hl hn => ?_) hi hr (evalDraw_ok hsw n _ u s' h)
        simp only [frontOk, List.all_eq_true, List.mem_range] at hok
        have := hok j hj
        simp only [Bool.or_eq_true, beq_iff_eq, List.contains_iff_mem] at this
        rcases this with ((h1 | h1) | h1) | h1
        · exact absurd h1 hji
        · rw [hl] at h1; cases h1
        · exact absurd h1 hn
        · exact h1
    · split at h
      · rename_i hr
        cases h
        exact ⟨fun _ => rfl, fun i hi => by rw [hr] at hi; cases hi⟩
      · rename_i i rest hr
        split at h
        · cases h
        · rename_i s1 h1
          split at h
          · rename_i hall
            cases h
            refine ⟨fun e => (by rw [hr] at e; cases e), fun j hj => ?_⟩
            have fin : ∀ j, (run j s).bind (evalDraw run ws sw n (listed.set j true)) = some s' → ∃ u, run j s = some u ∧ AnyTo run ws n (listed.set j true) u s' := fun j hj => by
              cases hrj : run j s with
              | none => simp [hrj] at hj
              | some u => simp only [hrj, Option.bind_some] at hj; exact ⟨u, rfl, evalDraw_ok hsw n _ u s' hj⟩
            rw [hr] at hj
            rcases List.mem_cons.1 hj with rfl | hj
            · exact fin _ h1
            · exact fin j (by simpa using List.all_eq_true.1 hall j hj)
          · cases h
end Go.Proofs.Ytkimloceaihplaa.Ai
