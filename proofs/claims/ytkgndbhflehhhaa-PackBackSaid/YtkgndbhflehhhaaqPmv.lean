/- The reference of pack.Lay: the distinct rows. -/
import Derived.Test.YtkgndbhflehhhaaqPm1
import Derived.Test.YtkgndbhflehhhaaqPlw
namespace Go.Proofs.Ytkgndbhflehhhaa.Ai
open Go Go.Proofs
set_option linter.unusedVariables false
set_option linter.unusedSimpArgs false
set_option maxRecDepth 10000
set_option maxHeartbeats 4000000

section
variable {rows : List (List Int)} {v : AV}
theorem fzI {l : List Int} {w : AV} {h : AHeap} {q : Option Nat} (ho : OwnG 1 (eIs l) w h q) (d : Nat) : ∃ x c, freeze h (d + 2) w = some (x, c) ∧ Li l x := by
  rcases ho with ⟨h1, h2, _⟩ | ⟨h1, i, ver, _, h3, h4⟩
  · subst h2
    have : l = [] := by cases l with | nil => rfl | cons a l => simp [eIs] at h1
    exact ⟨.nilS, true, rfl, .inl ⟨this, rfl⟩⟩
  · subst h3
    have hm : ∀ l : List Int, ∃ q, mapO (mapO (freeze h (d + 1))) (eIs l) = some q ∧ q.map (·.map (·.1)) = eIs l := by
      intro l
      induction l with
      | nil => exact ⟨[], rfl, rfl⟩
      | cons a l ih =>
        obtain ⟨q, e1, e2⟩ := ih
        have e3 : mapO (freeze h (d + 1)) [.int .i64 a] = some [(.int .i64 a, true)] := rfl
        have e4 : eIs (a :: l) = [.int .i64 a] :: eIs l := rfl
        exact ⟨[(.int .i64 a, true)] :: q, by rw [e4]; simp only [mapO] at e3 ⊢; simp only [e3,e1], by rw [e4]; simp [e2]⟩
    obtain ⟨q, e1, e2⟩ := hm l
    have := freeze_hslG (d := d + 1) (n := (eIs l).length) (cc := none) (q := q) h4 (Nat.le_refl _) (by rw [List.take_length]; exact e1)
    exact ⟨_, false, this, .inr ⟨false, by rw [e2]⟩⟩

end
end Go.Proofs.Ytkgndbhflehhhaa.Ai
namespace Go.Proofs.Ytkgndbhflehhhaa.Ai
open Go Go.Proofs
set_option linter.unusedVariables false
set_option linter.unusedSimpArgs false
set_option maxRecDepth 10000
set_option maxHeartbeats 4000000

def cntX (own : List (List Int)) (x : Int) : Nat := cntD (own.getD x.toNat [])
def notLess (own : List (List Int)) (i x : Int) : Bool := decide (cntX own i ≤ cntX own x)
def ordStep (own : List (List Int)) (l : List Int) (i : Int) : List Int := l.takeWhile (notLess own i) ++ i :: l.dropWhile (notLess own i)
def orderD (own : List (List Int)) : List Int := (iotaI own.length).foldl (ordStep own) []

theorem eIs_snoc (l : List Int) (x : Int) : eIs (l ++ [x]) = eIs l ++ [[.int .i64 x]] := by rw [eIs_append]; rfl

section
variable {own : List (List Int)} {v : AV}
end
end Go.Proofs.Ytkgndbhflehhhaa.Ai
namespace Go.Proofs.Ytkgndbhflehhhaa.Ai
open Go Go.Proofs
set_option linter.unusedVariables false
set_option linter.unusedSimpArgs false
set_option maxRecDepth 10000
set_option maxHeartbeats 4000000

theorem ordStep_perm (own : List (List Int)) (l : List Int) (i : Int) : List.Perm (ordStep own l i) (i :: l) := by
  unfold ordStep
  exact List.perm_middle.trans (by rw [List.takeWhile_append_dropWhile])
section
variable {own : List (List Int)} {v : AV}
end
end Go.Proofs.Ytkgndbhflehhhaa.Ai
namespace Go.Proofs.Ytkgndbhflehhhaa.Ai
open Go Go.Proofs
set_option linter.unusedVariables false
set_option linter.unusedSimpArgs false

theorem key_lt (own : List (List Int)) (i x : Int) : keyD own i < keyD own x ↔ ¬ notLess own i x = true := by
  unfold keyD notLess cntX
  rw [decide_eq_true_eq]
  generalize cntD (own.getD x.toNat []) = a
  generalize cntD (own.getD i.toNat []) = b
  constructor <;> intro h <;> omega
theorem dw_head (p : Int → Bool) : ∀ l : List Int, l.dropWhile p = [] ∨ ∃ a r, l.dropWhile p = a :: r ∧ ¬ p a = true := by
  intro l
  induction l with
  | nil => exact .inl rfl
  | cons a l ih =>
    by_cases e : p a = true
    · rw [List.dropWhile_cons_of_pos e]; exact ih
    · rw [List.dropWhile_cons_of_neg e]; exact .inr ⟨a, l, rfl, e⟩
theorem tw_all (p : Int → Bool) : ∀ (l : List Int) (x : Int), x ∈ l.takeWhile p → p x = true := by
  intro l
  induction l with
  | nil => intro x h; simp at h
  | cons a l ih =>
    intro x h
    by_cases e : p a = true
    · rw [List.takeWhile_cons_of_pos e] at h
      rcases List.mem_cons.1 h with h | h
      · subst h; exact e
      · exact ih x h
    · rw [List.takeWhile_cons_of_neg e] at h; simp at h
theorem snoc_cases (l : List Int) : l = [] ∨ ∃ l1 x, l = l1 ++ [x] := by
  rcases List.eq_nil_or_concat l with h | ⟨a, b, h⟩
  · exact .inl h
  · exact .inr ⟨a, b, by rw [h]; try simp⟩
theorem ordStep_sorted (own : List (List Int)) (l : List Int) (i : Int) (hs : SortedK (keyD own) l) (hl : ∀ s ∈ l, s < i) : SortedK (keyD own) (ordStep own l i) := by
  have hs' : SortedK (keyD own) (l.takeWhile (notLess own i) ++ l.dropWhile (notLess own i)) := by rw [List.takeWhile_append_dropWhile]; exact hs
  refine insert_sorted hs' (by rw [List.takeWhile_append_dropWhile]; exact hl) ?_ ?_
  · intro q hq
    rcases dw_head (notLess own i) l with h | ⟨a, r, h, ha⟩
    · rw [h] at hq; simp at hq
    · have h2 := (List.pairwise_append.1 hs').2.1
      rw [h] at hq h2
      have ka := (key_lt own i a).2 ha
      rcases List.mem_cons.1 hq with e | e
      · subst e; exact ka
      · have := (List.pairwise_cons.1 h2).1 q e
        unfold lexlt at this
        omega
  · rcases snoc_cases (l.takeWhile (notLess own i)) with h | ⟨l1, x, h⟩
    · exact .inl h
    · refine .inr ⟨l1, x, h, fun hk => ?_⟩
      exact (key_lt own i x).1 hk (tw_all _ l x (by rw [h]; simp))
theorem foldO_perm (own : List (List Int)) : ∀ (xs l : List Int), List.Perm (xs.foldl (ordStep own) l) (l ++ xs) := by
  intro xs
  induction xs with
  | nil => intro l; rw [List.append_nil]; exact List.Perm.refl _
  | cons x xs ih =>
    intro l
    rw [List.foldl_cons]
    refine (ih _).trans ?_
    exact ((ordStep_perm own l x).append_right xs).trans List.perm_middle.symm
theorem foldO_sorted (own : List (List Int)) : ∀ (xs l : List Int), SortedK (keyD own) l → xs.Pairwise (· < ·) → (∀ s ∈ l, ∀ x ∈ xs, s < x) → SortedK (keyD own) (xs.foldl (ordStep own) l) := by
  intro xs
  induction xs with
  | nil => intro l h _ _; exact h
  | cons x xs ih =>
    intro l h1 h2 h3
    rw [List.foldl_cons]
    rw [List.pairwise_cons] at h2
    refine ih _ (ordStep_sorted own l x h1 fun s hs => h3 s hs x (by simp)) h2.2 fun s hs y hy => ?_
    rcases List.mem_cons.1 ((ordStep_perm own l x).mem_iff.1 hs) with e | e
    · subst e; exact h2.1 y hy
    · exact h3 s e y (by simp [hy])
theorem orderD_ok (own : List (List Int)) : OrdOk own (orderD own) := by
  refine ⟨?_, foldO_sorted own _ [] List.Pairwise.nil (iotaI_lt _) (by simp)⟩
  have := foldO_perm own (iotaI own.length) []
  rwa [List.nil_append] at this
theorem OrdOk.eq {own : List (List Int)} {ord : List Int} (h : OrdOk own ord) : ord = orderD own := by
  obtain ⟨p1, s1⟩ := h
  obtain ⟨p2, s2⟩ := orderD_ok own
  refine List.Perm.eq_of_pairwise (fun a b _ _ h1 h2 => ?_) s1 s2 (p1.trans p2.symm)
  unfold lexlt at h1 h2
  omega
end Go.Proofs.Ytkgndbhflehhhaa.Ai
