/- PackBack: the law. -/
import Derived.Test.YtkgndbhflehhhaamPrb
import Derived.Test.YtkgndbhflehhhaamPqA
namespace Go.Proofs.Ytkgndbhflehhhaa.Ai
open Go Go.Proofs
set_option linter.unusedVariables false
set_option linter.unusedSimpArgs false
set_option maxRecDepth 10000
set_option maxHeartbeats 4000000
theorem act_num (n : Int) (l : List (Int × Int)) (h : 0 ≤ numD n l) : actD (numD n l) = some l ∧ l.length ≤ 1 := by
 match l, h with
 | [], _ => exact ⟨rfl, by simp⟩
 | [(k, m)], h =>
  refine ⟨?_, by simp⟩
  rw [numD] at h ⊢
  split at h
  ·omega
  rename_i c0
  rw [if_neg c0]
  split at h
  ·rename_i c1
   rw [if_pos c1]
   have e1 : (4 * m + 1) % 4 = 1 := by omega
   have e2 : (4 * m + 1) / 4 = m := by omega
   rw [actD, if_neg (by omega), if_neg (by omega), if_pos ⟨by omega, e1⟩, e2, c1.1]
  ·rename_i c1
   rw [if_neg c1]
   split at h
   ·rename_i c2
    rw [if_pos c2]
    have e1 : (4 * m + 2) % 4 = 2 := by omega
    have e2 : (4 * m + 2) / 4 = m := by omega
    rw [actD, if_neg (by omega), if_neg (by omega), if_neg (by omega), if_pos ⟨by omega, e1⟩, e2, c2.1]
   ·rename_i c2
    rw [if_neg c2]
    split at h
    ·rename_i c3
     rw [if_pos c3, c3.1, c3.2]; rfl
    ·omega
 | a :: b :: r, h => rw [numD] at h <;> first | omega | simp
theorem goto_num (n x : Int) (h : 0 ≤ gtoD n x) : gtoD n x - 1 = x ∧ -1 ≤ x ∧ x < n := by
 unfold gtoD at h ⊢
 split at h
 ·omega
 ·rename_i c
  rw [if_neg c]; omega
theorem nonNeg_mem {l : List Int} (h : nonNeg l = true) : ∀ x ∈ l, 0 ≤ x := fun x hx => by
 have := List.all_eq_true.1 h x hx
 simpa using this
section
variable {t : TabD}
theorem ok_short (hk : t.ok) : ∀ r ∈ t.acts, ∀ c ∈ r, c.length ≤ 1 := by
 obtain ⟨o1, o2, o3⟩ := TabD.ok_len hk
 intro r hr c hc
 have := nonNeg_mem (List.all_eq_true.1 o2 (r.map (numD t.acts.length)) (List.mem_map.2 ⟨_, hr, rfl⟩)) _ (List.mem_map.2 ⟨_, hc, rfl⟩)
 exact (act_num _ _ this).2
end
section
variable {t : TabD} {av gv : AV}
end
end Go.Proofs.Ytkgndbhflehhhaa.Ai
