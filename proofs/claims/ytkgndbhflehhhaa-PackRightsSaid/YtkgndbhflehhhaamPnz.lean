/- PackLays: the law. -/
import Derived.Test.YtkgndbhflehhhaamPmu
import Derived.Test.YtkgndbhflehhhaamKp1
namespace Go.Proofs.Ytkgndbhflehhhaa.Ai
open Go Go.Proofs
set_option linter.unusedVariables false
set_option linter.unusedSimpArgs false
set_option maxRecDepth 10000
set_option maxHeartbeats 4000000
theorem layFold_len (own : List (List Int)) (M : Nat) (hM : ∀ r ∈ own, r.length ≤ M) : ∀ (ord : List Int) (s : List Int × List Int × List Int), s.2.1.length = s.2.2.length →
  (ord.foldl (layStep own) s).1.length = s.1.length ∧ (ord.foldl (layStep own) s).2.1.length = (ord.foldl (layStep own) s).2.2.length ∧ (ord.foldl (layStep own) s).2.1.length ≤ s.2.1.length + ord.length * M := by
 intro ord
 induction ord with
 | nil => intro s h; exact ⟨rfl, h, by simp⟩
 | cons x ord ih =>
  intro s h
  rw [List.foldl_cons]
  have hr : (own.getD x.toNat []).length ≤ M := by
   by_cases q : x.toNat < own.length
   ·have : own.getD x.toNat [] = own[x.toNat] := by simp [q]
    rw [this]; exact hM _ (List.getElem_mem q)
   ·have : own.getD x.toNat [] = [] := by simp [q]
    rw [this]; simp
  have pl := placeD_len (own.getD x.toNat []) s.2 (baseD s.2.2 (own.getD x.toNat [])) (x + 1) h
  have hb := baseD_le s.2.2 (own.getD x.toNat [])
  obtain ⟨h1, h2, h3⟩ := ih (layStep own s x) pl.1
  have l1 : (layStep own s x).1.length = s.1.length := by simp [layStep]
  have l2 : (layStep own s x).2.1.length ≤ s.2.1.length + M := Nat.le_trans pl.2 (Nat.max_le.2 ⟨by omega, by omega⟩)
  have l3 : (x :: ord).length * M = ord.length * M + M := by rw [List.length_cons, Nat.succ_mul]
  exact ⟨h1.trans l1, h2, by omega⟩
end Go.Proofs.Ytkgndbhflehhhaa.Ai
namespace Go.Proofs.Ytkgndbhflehhhaa.Ai
open Go Go.Proofs
open List renaming getD_eq_getElem?_getD → Q0, getElem?_append_left → Q1
set_option linter.unusedVariables false
set_option linter.unusedSimpArgs false
end Go.Proofs.Ytkgndbhflehhhaa.Ai
namespace Go.Proofs.Ytkgndbhflehhhaa.Ai
open Go Go.Proofs
open List renaming getD_eq_getElem?_getD → Q0, getElem?_append_left → Q1
set_option linter.unusedVariables false
set_option linter.unusedSimpArgs false
theorem dist_ok : ∀ (rows : List (List Int)) (s : List (List Int) × List Int) (pre : List (List Int)),
  (s.2.length = pre.length ∧ ∀ (i : Nat), i < pre.length → 0 ≤ s.2.getD i 0 ∧ s.2.getD i 0 < s.1.length ∧ s.1.getD (s.2.getD i 0).toNat [] = pre.getD i []) →
  ((rows.foldl dStep s).2.length = (pre ++ rows).length ∧ ∀ (i : Nat), i < (pre ++ rows).length → 0 ≤ (rows.foldl dStep s).2.getD i 0 ∧ (rows.foldl dStep s).2.getD i 0 < (rows.foldl dStep s).1.length ∧ (rows.foldl dStep s).1.getD ((rows.foldl dStep s).2.getD i 0).toNat [] = (pre ++ rows).getD i []) := by
 intro rows
 induction rows with
 | nil => intro s pre h; rw [List.append_nil]; exact h
 | cons r rows ih =>
  intro s pre h
  rw [List.foldl_cons]
  have key := ih (dStep s r) (pre ++ [r]) ?_
  ·rw [List.append_assoc] at key
   exact key
  obtain ⟨h1, h2⟩ := h
  obtain ⟨f, hf⟩ : ∃ f, f = s.1.findIdx (fun x => decide (x = r)) := ⟨_, rfl⟩
  have fle : f ≤ s.1.length := by rw [hf]; exact List.findIdx_le_length
  have e1 : (dStep s r).1 = if f = s.1.length then s.1 ++ [r] else s.1 := by simp only [dStep, ← hf]
  have e2 : (dStep s r).2 = s.2 ++ [(f : Int)] := by simp only [dStep, ← hf]
  have len2 : s.1.length ≤ (dStep s r).1.length := by rw [e1]; split <;> simp
  have same : ∀ j, j < s.1.length → (dStep s r).1.getD j [] = s.1.getD j [] := fun j hj => by
   rw [e1]
   split
   ·simp [Q0, Q1 hj]
   ·rfl
  refine ⟨by rw [e2]; simp [h1], fun i hi => ?_⟩
  rw [List.length_append, List.length_singleton] at hi
  by_cases c : i < pre.length
  ·have g2 : (dStep s r).2.getD i 0 = s.2.getD i 0 := by rw [e2]; simp [Q0, Q1 (show i < s.2.length by omega)]
   have g3 : (pre ++ [r]).getD i [] = pre.getD i [] := by simp [Q0, Q1 c]
   obtain ⟨a1, a2, a3⟩ := h2 i c
   rw [g2, g3]
   refine ⟨a1, by omega, ?_⟩
   rw [same _ (by omega)]; exact a3
  ·have ei : i = pre.length := by omega
   have g2 : (dStep s r).2.getD i 0 = (f : Int) := by rw [e2, ei, ← h1]; simp
   have g3 : (pre ++ [r]).getD i [] = r := by rw [ei]; simp
   rw [g2, g3]
   have el : (f : Int).toNat = f := rfl
   rw [el]
   by_cases d : f = s.1.length
   ·rw [e1, if_pos d]
    refine ⟨by omega, by simp; omega, ?_⟩
    rw [d]; simp
   ·have fl : f < s.1.length := by omega
    rw [same f fl]
    refine ⟨by omega, by omega, ?_⟩
    have := List.findIdx_getElem (xs := s.1) (p := fun x => decide (x = r)) (w := by rw [← hf]; exact fl)
    simp only [← hf] at this
    simp [fl]
    exact of_decide_eq_true this
theorem dist_len (rows : List (List Int)) : (distD rows).2.length = rows.length := by
 have := (dist_ok rows ([], []) [] ⟨rfl, fun i h => by simp at h⟩).1
 rw [List.nil_append] at this
 exact this
theorem layFold_base (own : List (List Int)) (M B : Nat) (hM : ∀ r ∈ own, r.length ≤ M) : ∀ (ord : List Int) (s : List Int × List Int × List Int), s.2.1.length = s.2.2.length → (∀ x ∈ s.1, 0 ≤ x ∧ x ≤ B) → s.2.1.length + ord.length * M ≤ B → ∀ x ∈ (ord.foldl (layStep own) s).1, 0 ≤ x ∧ x ≤ B := by
 intro ord
 induction ord with
 | nil => intro s _ h _; exact h
 | cons a ord ih =>
  intro s h hb hB
  rw [List.foldl_cons]
  have hr : (own.getD a.toNat []).length ≤ M := by
   by_cases q : a.toNat < own.length
   ·have : own.getD a.toNat [] = own[a.toNat] := by simp [q]
    rw [this]; exact hM _ (List.getElem_mem q)
   ·have : own.getD a.toNat [] = [] := by simp [q]
    rw [this]; simp
  have pl := placeD_len (own.getD a.toNat []) s.2 (baseD s.2.2 (own.getD a.toNat [])) (a + 1) h
  have hbb := baseD_le s.2.2 (own.getD a.toNat [])
  have l2 : (layStep own s a).2.1.length ≤ s.2.1.length + M := Nat.le_trans pl.2 (Nat.max_le.2 ⟨by omega, by omega⟩)
  have l3 : (a :: ord).length * M = ord.length * M + M := by rw [List.length_cons, Nat.succ_mul]
  refine ih (layStep own s a) pl.1 (fun x hx => ?_) (by omega)
  have e1 : (layStep own s a).1 = s.1.set a.toNat ((baseD s.2.2 (own.getD a.toNat []) : Nat) : Int) := rfl
  rw [e1] at hx
  rcases List.mem_or_eq_of_mem_set hx with h1 | h1
  ·exact hb x h1
  ·omega
theorem lay_sizes (rows : List (List Int)) (M : Nat) (hM : ∀ r ∈ rows, r.length ≤ M) :
  (layT rows).base.length = (distD rows).1.length ∧ (layT rows).val.length = (layT rows).own.length ∧ (layT rows).val.length ≤ rows.length * M ∧ (∀ x ∈ (layT rows).base, 0 ≤ x ∧ x ≤ (rows.length * M : Nat)) ∧ (distD rows).1.length ≤ rows.length ∧ (∀ r ∈ (distD rows).1, r.length ≤ M) ∧ (orderD (distD rows).1).length = (distD rows).1.length := by
 have dl := foldD_len rows ([], [])
 have hD : rows.foldl dStep ([], []) = distD rows := rfl
 rw [hD] at dl
 simp only [List.length_nil,Nat.zero_add] at dl
 have dm : ∀ r ∈ (distD rows).1, r.length ≤ M := fun r hr => by
  rcases foldD_mem rows ([], []) r (by rw [hD]; exact hr) with h | h
  ·simp at h
  ·exact hM r h
 obtain ⟨op, _⟩ := orderD_ok (distD rows).1
 have hol : (orderD (distD rows).1).length = (distD rows).1.length := by rw [op.length_eq, iotaI_len]
 obtain ⟨b1, b2, b3⟩ := layFold_len (distD rows).1 M dm (orderD (distD rows).1) (List.replicate (distD rows).1.length 0, [], []) rfl
 have hmul2 : (orderD (distD rows).1).length * M ≤ rows.length * M := Nat.mul_le_mul_right M (by omega)
 simp only [List.length_replicate,List.length_nil,Nat.zero_add] at b1 b3
 have b4 := layFold_base (distD rows).1 M (rows.length * M) dm (orderD (distD rows).1) (List.replicate (distD rows).1.length 0, [], []) rfl (fun x hx => by
  have := List.eq_of_mem_replicate hx
  omega) (by simpa using hmul2)
 exact ⟨b1, b2, Nat.le_trans b3 hmul2, b4, dl.1, dm, hol⟩
end Go.Proofs.Ytkgndbhflehhhaa.Ai
