/- Readings of arguments, their weights kept. -/
import Derived.Test.YtkimloceaihplaamAi27
import Derived.SizedLaws
namespace Go.Proofs.Ytkimloceaihplaa.Ai
open Go
open List renaming getElem?_eq_none → Q0
set_option linter.unusedVariables false
set_option linter.unusedSimpArgs false
section
variable {H : Type} {enc : TypeId × Value → H} {P : Program} {w : World} {n : Nat} {t : TypeId} {cs : List Value} {d : DataW H} {ps : List MemPlace}
theorem weightsAll_mem {P : Program} {e : TypeId} : ∀ (l : List (DataW H)) (d : DataW H), d ∈ l → ∀ k ∈ d.weights P e, k ∈ DataW.weightsAll P e l
 | [], d, h, k, hk => by cases h
 | x :: l, d, h, k, hk => by
  simp only [DataW.weightsAll,List.mem_append]
  rcases List.mem_cons.1 h with rfl | h
  ·exact .inl hk
  ·exact .inr (weightsAll_mem l d h k hk)
theorem tr_str_w (hu : P.underlying t = some .string) (h : Tr enc P w n t cs d ps) (hW : ∀ k ∈ d.weights P t, k ≤ reachBytes) : ∃ s : List UInt8, Cs w cs [.str s] ∧ cs.length = 1 ∧ s.length ≤ reachBytes := by
 cases n with
 | zero => simp [Tr, DataW.trod] at h
 | succ n =>
  unfold Tr DataW.trod at h
  rw [hu] at h
  cases cs with
  | nil => simp at h
  | cons v r =>
   cases r with
   | cons u r => simp at h
   | nil =>
    cases v <;> simp at h
    rename_i s
    refine ⟨s.data.toList, .one (.str _), rfl, ?_⟩
    obtain ⟨_, hd, _⟩ := h
    have := hW s.data.toList.length (by rw [← hd]; simp [DataW.weights])
    exact this
theorem tr_slice_w {X : Type} {e : TypeId} (hu : P.underlying t = some (.slice e)) (hn : 0 < P.cellsOf e) {en : X → List AV} (he : ∀ (m : Nat) (cs : List Value) (d : DataW H) (ps : List MemPlace), m + 1 = n → Tr enc P w m e cs d ps → (∀ k ∈ d.weights P e, k ≤ reachBytes) → ∃ x, Cs w cs (en x))
  (h : Tr enc P w n t cs d ps) (hW : ∀ k ∈ d.weights P t, k ≤ reachBytes) : ∃ xs : List X, Cs w cs [.vsl false (xs.map en)] ∧ cs.length = 1 ∧ xs.length ≤ maxLen := by
 cases n with
 | zero => simp [Tr, DataW.trod] at h
 | succ n =>
  unfold Tr DataW.trod at h
  rw [hu] at h
  cases cs with
  | nil => simp at h
  | cons v r =>
   cases r with
   | cons u r => simp at h
   | nil =>
    cases v with
    | slice a len cap =>
     cases a with
     | none =>
      cases len with
      | succ len => simp at h
      | zero =>
       cases cap with
       | succ cap => simp at h
       | zero => exact ⟨[], .one (.vsl0 false), rfl, Nat.zero_le _⟩
     | some a =>
      simp only at h
      split at h
      ·rename_i hc
       cases hm : (List.range len).mapM (fun i => (w.cells? 0 (a.add (i * P.cellsOf e)) (P.cellsOf e)).bind (DataW.trod enc P w 0 (fun _ => true) true n e)) with
       | none => simp only [hm] at h; cases h
       | some elems =>
        obtain ⟨k1, k2⟩ := mapM_get hm
        simp only [List.length_range] at k1
        have hd : ∃ rest : List (DataW H), d = .slice (elems.map (·.1)) rest := by
         simp only [hm,Option.bind_some] at h
         split at h
         ·cases hm2 : (List.range (cap - len)).mapM (fun j => (w.cells? 0 (a.add ((len + j) * P.cellsOf e)) (P.cellsOf e)).bind (DataW.trod enc P w 0 (fun _ => true) true n e)) with
          | none => rw [hm2] at h; cases h
          | some rest => rw [hm2] at h; simp at h; exact ⟨_, h.1.symm⟩
         ·simp at h; exact ⟨_, h.1.symm⟩
        obtain ⟨rest, hd⟩ := hd
        have hWe : ∀ y ∈ elems, ∀ k ∈ y.1.weights P e, k ≤ reachBytes := by
         intro y hy k hk
         apply hW k
         rw [hd]
         simp only [DataW.weights,hu,List.mem_cons,List.mem_append]
         refine .inr (.inl (weightsAll_mem _ y.1 (List.mem_map_of_mem hy) k hk))
        -- the elements
        have el : ∀ i, i < len → ∃ (x : X) (cs : List Value), w.cells? 0 (a.add (i * P.cellsOf e)) (P.cellsOf e) = some cs ∧ Cs w cs (en x) := by
         intro i hi
         obtain ⟨y, hy, h2⟩ := k2 i i (by simp [hi])
         cases hcs : w.cells? 0 (a.add (i * P.cellsOf e)) (P.cellsOf e) with
         | none => simp [hcs] at h2
         | some cs =>
          simp only [hcs,Option.bind_some] at h2
          obtain ⟨x, hx⟩ := he n cs y.1 y.2 rfl h2 (hWe y (List.mem_of_getElem? hy))
          exact ⟨x, cs, rfl, hx⟩
        by_cases h0 : len = 0
        ·subst h0
         refine ⟨[], .one ?_, rfl, Nat.zero_le _⟩
         by_cases hcap : cap = 0
         ·subst hcap; exact .vslE a false
         ·-- a spare cell is read
          have hsp : a.spot = none := by
           simp only [if_true] at h
           cases hm2 : (List.range (cap - 0)).mapM (fun j => (w.cells? 0 (a.add ((0 + j) * P.cellsOf e)) (P.cellsOf e)).bind (DataW.trod enc P w 0 (fun _ => true) true n e)) with
           | none => simp only [hm,Option.bind_some,hm2] at h; cases h
           | some rest =>
            obtain ⟨_, q2⟩ := mapM_get hm2
            obtain ⟨y, _, h2⟩ := q2 0 0 (by rw [List.getElem?_range]; omega)
            cases hcs : w.cells? 0 (a.add ((0 + 0) * P.cellsOf e)) (P.cellsOf e) with
            | none => rw [hcs] at h2; cases h2
            | some cs =>
             have := (cells_lie hcs hn).1
             simpa [Addr.add] using this
          obtain ⟨b, o, sp⟩ := a
          simp only at hsp; subst hsp
          exact .vsl b o (P.cellsOf e) cap false [] (fun _ _ => Go.undef) (Nat.zero_le _) (fun h => by cases h) (fun e c h => by simp at h) (fun e c j x h => by simp at h) (fun e c j x h => by simp at h)
        ·-- at least one
         have hsp : a.spot = none := by
          obtain ⟨x, cs, h1, _⟩ := el 0 (by omega)
          have := (cells_lie h1 hn).1
          simpa [Addr.add] using this
         obtain ⟨b, o, sp⟩ := a
         simp only at hsp; subst hsp
         have hadd : ∀ i, (Addr.add ⟨b, o, none⟩ i) = ⟨b, o + i, none⟩ := fun i => by
          unfold Addr.add; split
          ·rename_i h; subst h; rfl
          ·rfl
         let xs : List X := (List.range len).pmap (fun i hi => Classical.choose (el i hi)) (fun i hi => by simpa using hi)
         have hxl : xs.length = len := by simp [xs]
         have hxg : ∀ (i : Nat) (hi : i < len), xs[i]? = some (Classical.choose (el i hi)) := fun i hi => by simp [xs, hi]
         have hsp : ∀ (i : Nat) (hi : i < len), ∃ cs : List Value, w.cells? 0 (Addr.add ⟨b, o, none⟩ (i * P.cellsOf e)) (P.cellsOf e) = some cs ∧ Cs w cs (en (Classical.choose (el i hi))) := fun i hi => Classical.choose_spec (el i hi)
         refine ⟨xs, .one ?_, rfl, by rw [hxl]; omega⟩
         have key : PRep (fun _ => True) w (.slice (some ⟨b, o, none⟩) (xs.map en).length cap) (.vsl false (xs.map en)) := by
          refine .vsl b o (P.cellsOf e) cap false (xs.map en) (fun e' j => (w.cell? ⟨b, o + e' * P.cellsOf e + j, none⟩).getD Go.undef) (by simp [hxl]; exact hc.2.1) (fun h => by cases h) ?_ ?_ ?_
          ·intro i c hi
           rw [List.getElem?_map] at hi
           have hil : i < len := by
            rcases Nat.lt_or_ge i len with h | h
            ·exact h
            ·rw [Q0 (by rw [hxl]; exact h)] at hi; cases hi
           rw [hxg i hil] at hi
           simp at hi; subst hi
           obtain ⟨cs, h1, h2⟩ := hsp i hil
           rw [← h2.len]; exact (cells_lie h1 hn).2.1
          ·intro i c j x hi hj
           rw [List.getElem?_map] at hi
           have hil : i < len := by
            rcases Nat.lt_or_ge i len with h | h
            ·exact h
            ·rw [Q0 (by rw [hxl]; exact h)] at hi; cases hi
           rw [hxg i hil] at hi
           simp at hi; subst hi
           obtain ⟨cs, h1, h2⟩ := hsp i hil
           obtain ⟨v, h3, h4⟩ := h2.get hj
           have h5 := (cells_lie h1 hn).2.2 j v h3
           rw [hadd] at h5
           exact ⟨trivial, by rw [h5]; rfl⟩
          ·intro i c j x hi hj
           rw [List.getElem?_map] at hi
           have hil : i < len := by
            rcases Nat.lt_or_ge i len with h | h
            ·exact h
            ·rw [Q0 (by rw [hxl]; exact h)] at hi; cases hi
           rw [hxg i hil] at hi
           simp at hi; subst hi
           obtain ⟨cs, h1, h2⟩ := hsp i hil
           obtain ⟨v, h3, h4⟩ := h2.get hj
           have h5 := (cells_lie h1 hn).2.2 j v h3
           rw [hadd] at h5
           rw [h5]; exact h4
         rw [List.length_map, hxl] at key
         exact key
      ·cases h
    | _ => simp at h
theorem tr_struct_w {fs : Array Field} (hu : P.underlying t = some (.struct fs)) (h : Tr enc P w n t cs d ps) (hW : ∀ k ∈ d.weights P t, k ≤ reachBytes) : ∃ m, n = m + 1 ∧ cs.length = P.cellsOf t ∧ ∀ (i : Nat) (f : Field), fs[i]? = some f → ∃ d' ps', Tr enc P w m f.type ((cs.drop f.offset).take (P.cellsOf f.type)) d' ps' ∧ ∀ k ∈ d'.weights P f.type, k ≤ reachBytes := by
 cases n with
 | zero => simp [Tr, DataW.trod] at h
 | succ n =>
  unfold Tr DataW.trod at h
  rw [hu] at h
  simp only at h
  split at h
  ·rename_i hl
   refine ⟨n, rfl, hl, fun i f hi => ?_⟩
   cases hm : fs.toList.mapM (fun f => DataW.trod enc P w 0 (fun _ => true) true n f.type ((cs.drop f.offset).take (P.cellsOf f.type))) with
   | none => simp only [hm] at h; cases h
   | some xs =>
    obtain ⟨k1, k2⟩ := mapM_get hm
    obtain ⟨y, hy, h2⟩ := k2 i f (by simpa using hi)
    refine ⟨y.1, y.2, h2, fun k hk => hW k ?_⟩
    simp only [hm] at h
    have hd : d = .agg (xs.map (·.1)) := by simp at h; exact h.1.symm
    rw [hd]
    simp only [DataW.weights,hu]
    exact DataW.weights_mem_each (j := i) (t := f.type) (d := y.1) (by simp [hi]) (by simp [hy]) k hk
  ·cases h
end
end Go.Proofs.Ytkimloceaihplaa.Ai
