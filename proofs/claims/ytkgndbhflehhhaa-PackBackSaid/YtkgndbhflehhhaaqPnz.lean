/- PackLays: the law. -/
import Derived.Test.YtkgndbhflehhhaaqPmu
import Derived.Test.YtkgndbhflehhhaaqKp1
namespace Go.Proofs.Ytkgndbhflehhhaa.Ai
open Go Go.Proofs
set_option linter.unusedVariables false
set_option linter.unusedSimpArgs false
set_option maxRecDepth 10000
set_option maxHeartbeats 4000000

theorem layFold_len (own : List (List Int)) (M : Nat) (hM : ∀ r ∈ own, r.length ≤ M) : ∀ (ord : List Int) (s : List Int × List Int × List Int), s.2.1.length = s.2.2.length →
    (ord.foldl (layStep own) s).1.length = s.1.length ∧ (ord.foldl (layStep own) s).2.1.length = (ord.foldl (layStep own) s).2.2.length ∧ (ord.foldl (layStep own) s).2.1.length ≤ s.2.1.length + ord.length * M := by
  intro ord
  induction ord with
  | nil => intro s h; exact ⟨rfl, h, by simp⟩
  | cons x ord ih =>
    intro s h
    rw [List.foldl_cons]
    have hr : (own.getD x.toNat []).length ≤ M := by
      by_cases q : x.toNat < own.length
      · have : own.getD x.toNat [] = own[x.toNat] := by simp [q]
        rw [this]; exact hM _ (List.getElem_mem q)
      · have : own.getD x.toNat [] = [] := by simp [q]
        rw [this]; simp
    have pl := placeD_len (own.getD x.toNat []) s.2 (baseD s.2.2 (own.getD x.toNat [])) (x + 1) h
    have hb := baseD_le s.2.2 (own.getD x.toNat [])
    obtain ⟨h1, h2, h3⟩ := ih (layStep own s x) pl.1
    have l1 : (layStep own s x).1.length = s.1.length := by simp [layStep]
    have l2 : (layStep own s x).2.1.length ≤ s.2.1.length + M := Nat.le_trans pl.2 (Nat.max_le.2 ⟨by omega, by omega⟩)
    have l3 : (x :: ord).length * M = ord.length * M + M := by rw [List.length_cons, Nat.succ_mul]
    exact ⟨h1.trans l1, h2, by omega⟩

end Go.Proofs.Ytkgndbhflehhhaa.Ai
namespace Go.Proofs.Ytkgndbhflehhhaa.Ai
open Go Go.Proofs
set_option linter.unusedVariables false
set_option linter.unusedSimpArgs false

theorem getD_set (l : List Int) (k p : Nat) (x : Int) (hk : k < l.length) : (l.set k x).getD p 0 = if p = k then x else l.getD p 0 := by
  simp only [List.getD_eq_getElem?_getD,List.getElem?_set]
  by_cases e : p = k
  · subst e; simp [hk]
  · have e' : ¬ k = p := fun h => e h.symm
    simp [e, e']
theorem extL_getD (l : List Int) (n p : Nat) : (extL l n).getD p 0 = l.getD p 0 := by
  unfold extL
  simp only [List.getD_eq_getElem?_getD]
  by_cases h : p < l.length
  · rw [List.getElem?_append_left h]
  · rw [List.getElem?_append_right (by omega), List.getElem?_eq_none (l := l) (by omega)]
    by_cases h2 : p - l.length < n - l.length
    · rw [List.getElem?_replicate, if_pos h2]; rfl
    · rw [List.getElem?_replicate, if_neg h2]
theorem setX_getD (l : List Int) (k p : Nat) (x : Int) : (setX l k x).getD p 0 = if p = k then x else l.getD p 0 := by
  unfold setX
  rw [getD_set _ _ _ _ (by rw [extL_len]; omega), extL_getD]
theorem placeD_getD : ∀ (row : List Int) (s : List Int × List Int) (k : Nat) (r : Int) (p : Nat),
    (placeD s row k r).1.getD p 0 = (if k ≤ p ∧ row.getD (p - k) 0 ≠ 0 then row.getD (p - k) 0 else s.1.getD p 0) ∧
    (placeD s row k r).2.getD p 0 = (if k ≤ p ∧ row.getD (p - k) 0 ≠ 0 then r else s.2.getD p 0) := by
  intro row
  induction row with
  | nil => intro s k r p; simp [placeD]
  | cons x row ih =>
    intro s k r p
    rw [placeD]
    have key : k + 1 ≤ p → (x :: row).getD (p - k) 0 = row.getD (p - (k + 1)) 0 := fun h => by
      have : p - k = (p - (k + 1)) + 1 := by omega
      rw [this, List.getD_cons_succ]
    by_cases z : x = 0
    · rw [if_pos z]
      obtain ⟨h1, h2⟩ := ih s (k + 1) r p
      rw [h1, h2]
      by_cases c : k + 1 ≤ p
      · rw [key c]
        have : k ≤ p := by omega
        simp [c, this]
      · by_cases d : p = k
        · subst d
          have e0 : (x :: row).getD (p - p) 0 = x := by simp
          rw [e0]
          simp [c, z]
        · have : ¬ k ≤ p := by omega
          simp [c, this]
    · rw [if_neg z]
      obtain ⟨h1, h2⟩ := ih (setX s.1 k x, setX s.2 k r) (k + 1) r p
      rw [h1, h2]
      simp only [setX_getD]
      by_cases c : k + 1 ≤ p
      · rw [key c]
        have c1 : k ≤ p := by omega
        have c2 : ¬ p = k := by omega
        simp [c, c1, c2]
      · by_cases d : p = k
        · subst d
          have e0 : (x :: row).getD (p - p) 0 = x := by simp
          rw [e0]
          simp [c, z]
        · have : ¬ k ≤ p := by omega
          simp [c, this, d]
theorem fitsD_iff (chk : List Int) : ∀ (row : List Int) (k : Nat), fitsD chk row k = true → ∀ j, row.getD j 0 ≠ 0 → chk.getD (k + j) 0 = 0 := by
  intro row
  induction row with
  | nil => intro k _ j h; simp at h
  | cons x row ih =>
    intro k h j hj
    rw [fitsD] at h
    cases b : (decide (x ≠ 0) && (decide (k < chk.length) && decide (chk.getD k 0 ≠ 0))) with
    | true => rw [b, cond_true] at h; cases h
    | false =>
      rw [b, cond_false] at h
      cases j with
      | zero =>
        rw [List.getD_cons_zero] at hj
        rw [Nat.add_zero]
        by_cases c : k < chk.length
        · by_cases d : chk.getD k 0 = 0
          · exact d
          · simp only [ne_eq,hj,c,d,not_false_eq_true,decide_true,Bool.and_self] at b
            cases b
        · simp [List.getD_eq_getElem?_getD, List.getElem?_eq_none (l := chk) (i := k) (by omega)]
      | succ j =>
        rw [List.getD_cons_succ] at hj
        have := ih (k + 1) h j hj
        rw [← this]; congr 1; omega
theorem baseGo_fits (chk row : List Int) : ∀ (d k : Nat), chk.length ≤ k + d → fitsD chk row (baseGo chk row d k) = true := by
  intro d
  induction d with
  | zero => intro k h; rw [baseGo]; exact fitsD_end chk row k (by omega)
  | succ d ih =>
    intro k h
    rw [baseGo]
    cases b : fitsD chk row k with
    | true => exact b
    | false => exact ih (k + 1) (by omega)
theorem baseD_fits (chk row : List Int) : fitsD chk row (baseD chk row) = true := baseGo_fits chk row _ 0 (by omega)

/-- How a table stands when some rows are placed. -/
structure GoodT (own : List (List Int)) (done : List Int) (s : List Int × List Int × List Int) : Prop where
  nn : ∀ r ∈ done, 0 ≤ s.1.getD r.toNat 0
  put : ∀ r ∈ done, ∀ j, (own.getD r.toNat []).getD j 0 ≠ 0 → s.2.2.getD ((s.1.getD r.toNat 0).toNat + j) 0 = r + 1 ∧ s.2.1.getD ((s.1.getD r.toNat 0).toNat + j) 0 = (own.getD r.toNat []).getD j 0
  from' : ∀ p, s.2.2.getD p 0 ≠ 0 → ∃ r ∈ done, (s.1.getD r.toNat 0).toNat ≤ p ∧ (own.getD r.toNat []).getD (p - (s.1.getD r.toNat 0).toNat) 0 ≠ 0 ∧ s.2.2.getD p 0 = r + 1
theorem GoodT.step {own : List (List Int)} {done : List Int} {s : List Int × List Int × List Int} (g : GoodT own done s) (hl : s.1.length = own.length) {a : Int} (ha : 0 ≤ a ∧ a < own.length) (hd : ∀ r ∈ done, 0 ≤ r) (hn : a ∉ done) : GoodT own (done ++ [a]) (layStep own s a) := by
  obtain ⟨k, hk⟩ : ∃ k, k = baseD s.2.2 (own.getD a.toNat []) := ⟨_, rfl⟩
  obtain ⟨row, hrow⟩ : ∃ r, r = own.getD a.toNat [] := ⟨_, rfl⟩
  have e1 : (layStep own s a).1 = s.1.set a.toNat (k : Int) := by simp only [layStep, ← hk]
  have e2 : (layStep own s a).2 = placeD s.2 row k (a + 1) := by simp only [layStep, ← hrow]; rw [hk, ← hrow]
  have fit := fitsD_iff s.2.2 row k (by rw [hk, ← hrow]; exact baseD_fits _ _)
  have b1 : ∀ r : Int, 0 ≤ r → r ≠ a → (layStep own s a).1.getD r.toNat 0 = s.1.getD r.toNat 0 := fun r h1 h2 => by
    rw [e1, getD_set _ _ _ _ (by omega), if_neg (by omega)]
  have b2 : (layStep own s a).1.getD a.toNat 0 = (k : Int) := by rw [e1, getD_set _ _ _ _ (by omega), if_pos rfl]
  have pl := fun p => placeD_getD row s.2 k (a + 1) p
  refine ⟨fun r hr => ?_, fun r hr j hj => ?_, fun p hp => ?_⟩
  · rcases List.mem_append.1 hr with h | h
    · rw [b1 r (hd r h) (fun e => hn (e ▸ h))]; exact g.nn r h
    · rw [List.mem_singleton] at h; subst h; rw [b2]; omega
  · rcases List.mem_append.1 hr with h | h
    · rw [b1 r (hd r h) (fun e => hn (e ▸ h)), e2]
      obtain ⟨g1, g2⟩ := g.put r h j hj
      obtain ⟨p1, p2⟩ := pl ((s.1.getD r.toNat 0).toNat + j)
      have c : ¬ (k ≤ (s.1.getD r.toNat 0).toNat + j ∧ row.getD ((s.1.getD r.toNat 0).toNat + j - k) 0 ≠ 0) := fun ⟨c1, c2⟩ => by
        have := fit _ c2
        have e : k + ((s.1.getD r.toNat 0).toNat + j - k) = (s.1.getD r.toNat 0).toNat + j := by omega
        rw [e, g1] at this
        have := hd r h
        omega
      rw [p1, p2, if_neg c, if_neg c]
      exact ⟨g1, g2⟩
    · rw [List.mem_singleton] at h; subst h
      rw [b2, e2, Int.toNat_natCast]
      rw [← hrow] at hj ⊢
      obtain ⟨p1, p2⟩ := pl (k + j)
      have e : k + j - k = j := by omega
      rw [e] at p1 p2
      rw [p1, p2, if_pos ⟨by omega, hj⟩, if_pos ⟨by omega, hj⟩]
      exact ⟨rfl, rfl⟩
  · rw [e2] at hp ⊢
    obtain ⟨_, p2⟩ := pl p
    by_cases c : k ≤ p ∧ row.getD (p - k) 0 ≠ 0
    · refine ⟨a, by simp, ?_⟩
      rw [b2, Int.toNat_natCast, ← hrow, p2, if_pos c]
      exact ⟨c.1, c.2, rfl⟩
    · rw [p2, if_neg c] at hp ⊢
      obtain ⟨r, h1, h2, h3, h4⟩ := g.from' p hp
      refine ⟨r, by simp [h1], ?_⟩
      rw [b1 r (hd r h1) (fun e => hn (e ▸ h1))]
      exact ⟨h2, h3, h4⟩
end Go.Proofs.Ytkgndbhflehhhaa.Ai
namespace Go.Proofs.Ytkgndbhflehhhaa.Ai
open Go Go.Proofs
set_option linter.unusedVariables false
set_option linter.unusedSimpArgs false

theorem layStep_len1 (own : List (List Int)) (s : List Int × List Int × List Int) (x : Int) : (layStep own s x).1.length = s.1.length := by simp [layStep]
/-- All the rows are placed. -/
theorem GoodT.fold {own : List (List Int)} : ∀ (ord done : List Int) (s : List Int × List Int × List Int), GoodT own done s → s.1.length = own.length → (∀ r ∈ done, 0 ≤ r) → (∀ r ∈ ord, 0 ≤ r ∧ r < own.length) → ord.Nodup → (∀ r ∈ ord, r ∉ done) → GoodT own (done ++ ord) (ord.foldl (layStep own) s) := by
  intro ord
  induction ord with
  | nil => intro done s g _ _ _ _ _; rw [List.append_nil]; exact g
  | cons a ord ih =>
    intro done s g hl hd ho hn hx
    rw [List.foldl_cons]
    have ha := ho a (by simp)
    have g' := g.step hl ha hd (hx a (by simp))
    rw [List.nodup_cons] at hn
    have := ih (done ++ [a]) (layStep own s a) g' (by rw [layStep_len1]; exact hl)
      (fun r hr => by
        rcases List.mem_append.1 hr with h | h
        · exact hd r h
        · rw [List.mem_singleton] at h; subst h; exact ha.1)
      (fun r hr => ho r (by simp [hr])) hn.2
      (fun r hr h => by
        rcases List.mem_append.1 h with h | h
        · exact hx r (by simp [hr]) h
        · rw [List.mem_singleton] at h; subst h; exact hn.1 hr)
    rw [List.append_assoc] at this
    exact this
theorem iota_nodup (n : Nat) : (iotaI n).Nodup := by
  have := iotaI_lt n
  exact this.imp fun h => by omega
theorem good_0 (own : List (List Int)) : GoodT own [] (List.replicate own.length 0, [], []) :=
  ⟨fun r h => by simp at h, fun r h => by simp at h, fun p h => by simp at h⟩
theorem good_lay (own : List (List Int)) : GoodT own (orderD own) (layD own (orderD own)) := by
  obtain ⟨op, _⟩ := orderD_ok own
  have := GoodT.fold (orderD own) [] (List.replicate own.length 0, [], []) (good_0 own) (by simp) (fun r h => by simp at h)
    (fun r hr => iotaI_mem.1 (op.mem_iff.1 hr)) (op.nodup_iff.2 (iota_nodup _)) (fun r _ h => by simp at h)
  rw [List.nil_append] at this
  exact this

/-- The numbers name the rows. -/
theorem dist_ok : ∀ (rows : List (List Int)) (s : List (List Int) × List Int) (pre : List (List Int)),
    (s.2.length = pre.length ∧ ∀ (i : Nat), i < pre.length → 0 ≤ s.2.getD i 0 ∧ s.2.getD i 0 < s.1.length ∧ s.1.getD (s.2.getD i 0).toNat [] = pre.getD i []) →
    ((rows.foldl dStep s).2.length = (pre ++ rows).length ∧ ∀ (i : Nat), i < (pre ++ rows).length → 0 ≤ (rows.foldl dStep s).2.getD i 0 ∧ (rows.foldl dStep s).2.getD i 0 < (rows.foldl dStep s).1.length ∧ (rows.foldl dStep s).1.getD ((rows.foldl dStep s).2.getD i 0).toNat [] = (pre ++ rows).getD i []) := by
  intro rows
  induction rows with
  | nil => intro s pre h; rw [List.append_nil]; exact h
  | cons r rows ih =>
    intro s pre h
    rw [List.foldl_cons]
    have key := ih (dStep s r) (pre ++ [r]) ?_
    · rw [List.append_assoc] at key
      exact key
    obtain ⟨h1, h2⟩ := h
    obtain ⟨f, hf⟩ : ∃ f, f = s.1.findIdx (fun x => decide (x = r)) := ⟨_, rfl⟩
    have fle : f ≤ s.1.length := by rw [hf]; exact List.findIdx_le_length
    have e1 : (dStep s r).1 = if f = s.1.length then s.1 ++ [r] else s.1 := by simp only [dStep, ← hf]
    have e2 : (dStep s r).2 = s.2 ++ [(f : Int)] := by simp only [dStep, ← hf]
    have len2 : s.1.length ≤ (dStep s r).1.length := by rw [e1]; split <;> simp
    have same : ∀ j, j < s.1.length → (dStep s r).1.getD j [] = s.1.getD j [] := fun j hj => by
      rw [e1]
      split
      · simp [List.getD_eq_getElem?_getD, List.getElem?_append_left hj]
      · rfl
    refine ⟨by rw [e2]; simp [h1], fun i hi => ?_⟩
    rw [List.length_append, List.length_singleton] at hi
    by_cases c : i < pre.length
    · have g2 : (dStep s r).2.getD i 0 = s.2.getD i 0 := by rw [e2]; simp [List.getD_eq_getElem?_getD, List.getElem?_append_left (show i < s.2.length by omega)]
      have g3 : (pre ++ [r]).getD i [] = pre.getD i [] := by simp [List.getD_eq_getElem?_getD, List.getElem?_append_left c]
      obtain ⟨a1, a2, a3⟩ := h2 i c
      rw [g2, g3]
      refine ⟨a1, by omega, ?_⟩
      rw [same _ (by omega)]; exact a3
    · have ei : i = pre.length := by omega
      have g2 : (dStep s r).2.getD i 0 = (f : Int) := by rw [e2, ei, ← h1]; simp
      have g3 : (pre ++ [r]).getD i [] = r := by rw [ei]; simp
      rw [g2, g3]
      have el : (f : Int).toNat = f := rfl
      rw [el]
      by_cases d : f = s.1.length
      · rw [e1, if_pos d]
        refine ⟨by omega, by simp; omega, ?_⟩
        rw [d]; simp
      · have fl : f < s.1.length := by omega
        rw [same f fl]
        refine ⟨by omega, by omega, ?_⟩
        have := List.findIdx_getElem (xs := s.1) (p := fun x => decide (x = r)) (w := by rw [← hf]; exact fl)
        simp only [← hf] at this
        simp [fl]
        exact of_decide_eq_true this
theorem dist_row (rows : List (List Int)) (i : Nat) (hi : i < rows.length) : 0 ≤ (distD rows).2.getD i 0 ∧ (distD rows).2.getD i 0 < (distD rows).1.length ∧ (distD rows).1.getD ((distD rows).2.getD i 0).toNat [] = rows.getD i [] := by
  have := (dist_ok rows ([], []) [] ⟨rfl, fun i h => by simp at h⟩).2 i (by simpa using hi)
  rw [List.nil_append] at this
  exact this
theorem dist_len (rows : List (List Int)) : (distD rows).2.length = rows.length := by
  have := (dist_ok rows ([], []) [] ⟨rfl, fun i h => by simp at h⟩).1
  rw [List.nil_append] at this
  exact this

/-- What the table of rows answers: the rows' entries, and nothing behind them. -/
theorem at_lay (rows : List (List Int)) (hv : (layT rows).val.length = (layT rows).own.length) (hb : (layT rows).base.length = (distD rows).1.length) (i : Nat) (hi : i < rows.length) (j : Nat) : atD (layT rows) i j = (rows.getD i []).getD j 0 := by
  obtain ⟨d1, d2, d3⟩ := dist_row rows i hi
  have dl := dist_len rows
  have G := good_lay (distD rows).1
  obtain ⟨op, _⟩ := orderD_ok (distD rows).1
  obtain ⟨r, hr⟩ : ∃ r, r = (distD rows).2.getD i 0 := ⟨_, rfl⟩
  rw [← hr] at d1 d2 d3
  have hm : r ∈ orderD (distD rows).1 := op.mem_iff.2 (iotaI_mem.2 ⟨d1, d2⟩)
  have c1 : (layT rows).row = (distD rows).2 := rfl
  have c2 : (layT rows).base = (layD (distD rows).1 (orderD (distD rows).1)).1 := rfl
  have c3 : (layT rows).val = (layD (distD rows).1 (orderD (distD rows).1)).2.1 := rfl
  have c4 : (layT rows).own = (layD (distD rows).1 (orderD (distD rows).1)).2.2 := rfl
  obtain ⟨T, hT⟩ : ∃ T, T = layT rows := ⟨_, rfl⟩
  obtain ⟨S, hS⟩ : ∃ S, S = layD (distD rows).1 (orderD (distD rows).1) := ⟨_, rfl⟩
  rw [← hT] at hv hb c1 c2 c3 c4 ⊢
  rw [← hS] at G c2 c3 c4
  have tr : T.row.getD (i : Int).toNat 0 = r := by rw [c1]; exact hr.symm
  have nb := G.nn r hm
  have pt := G.put r hm
  rw [← c2] at nb pt
  rw [← c3, ← c4] at pt
  have fr := G.from'
  rw [← c4, ← c2] at fr
  rw [d3] at pt
  unfold atD
  rw [tr]
  obtain ⟨b, hbb⟩ : ∃ b, b = T.base.getD r.toNat 0 := ⟨_, rfl⟩
  rw [← hbb] at nb pt ⊢
  have h0 : ¬ ((i : Int) < 0 ∨ (T.row.length : Int) ≤ i ∨ (j : Int) < 0) := by rw [c1, dl]; omega
  have h1 : ¬ (r < 0 ∨ (T.base.length : Int) ≤ r) := by omega
  rw [if_neg h0, if_neg h1]
  have tn : (b + (j : Int)).toNat = b.toNat + j := by omega
  rw [tn]
  obtain ⟨x, hx⟩ : ∃ x, x = (rows.getD i []).getD j 0 := ⟨_, rfl⟩
  by_cases z : x = 0
  · rw [← hx, z]
    split
    · rfl
    · rename_i nn
      have nn2 : T.own.getD (b.toNat + j) 0 = r + 1 := by omega
      exfalso
      obtain ⟨r2, m1, m2, m3, m4⟩ := fr (b.toNat + j) (by omega)
      have e : r2 = r := by omega
      subst e
      rw [← hbb] at m2 m3
      have : b.toNat + j - b.toNat = j := by omega
      rw [this, d3, ← hx] at m3
      exact m3 z
  · obtain ⟨p1, p2⟩ := pt j (by rw [← hx]; exact z)
    have lt : b.toNat + j < T.own.length := by
      by_cases q : b.toNat + j < T.own.length
      · exact q
      · have : T.own.getD (b.toNat + j) 0 = 0 := by simp [List.getD_eq_getElem?_getD, List.getElem?_eq_none (l := T.own) (i := b.toNat + j) (by omega)]
        omega
    rw [if_neg (by rw [p1]; omega), p2]
/-- The bases are small. -/
theorem layFold_base (own : List (List Int)) (M B : Nat) (hM : ∀ r ∈ own, r.length ≤ M) : ∀ (ord : List Int) (s : List Int × List Int × List Int), s.2.1.length = s.2.2.length → (∀ x ∈ s.1, 0 ≤ x ∧ x ≤ B) → s.2.1.length + ord.length * M ≤ B → ∀ x ∈ (ord.foldl (layStep own) s).1, 0 ≤ x ∧ x ≤ B := by
  intro ord
  induction ord with
  | nil => intro s _ h _; exact h
  | cons a ord ih =>
    intro s h hb hB
    rw [List.foldl_cons]
    have hr : (own.getD a.toNat []).length ≤ M := by
      by_cases q : a.toNat < own.length
      · have : own.getD a.toNat [] = own[a.toNat] := by simp [q]
        rw [this]; exact hM _ (List.getElem_mem q)
      · have : own.getD a.toNat [] = [] := by simp [q]
        rw [this]; simp
    have pl := placeD_len (own.getD a.toNat []) s.2 (baseD s.2.2 (own.getD a.toNat [])) (a + 1) h
    have hbb := baseD_le s.2.2 (own.getD a.toNat [])
    have l2 : (layStep own s a).2.1.length ≤ s.2.1.length + M := Nat.le_trans pl.2 (Nat.max_le.2 ⟨by omega, by omega⟩)
    have l3 : (a :: ord).length * M = ord.length * M + M := by rw [List.length_cons, Nat.succ_mul]
    refine ih (layStep own s a) pl.1 (fun x hx => ?_) (by omega)
    have e1 : (layStep own s a).1 = s.1.set a.toNat ((baseD s.2.2 (own.getD a.toNat []) : Nat) : Int) := rfl
    rw [e1] at hx
    rcases List.mem_or_eq_of_mem_set hx with h1 | h1
    · exact hb x h1
    · omega
/-- The table's sizes. -/
theorem lay_sizes (rows : List (List Int)) (M : Nat) (hM : ∀ r ∈ rows, r.length ≤ M) :
    (layT rows).base.length = (distD rows).1.length ∧ (layT rows).val.length = (layT rows).own.length ∧ (layT rows).val.length ≤ rows.length * M ∧ (∀ x ∈ (layT rows).base, 0 ≤ x ∧ x ≤ (rows.length * M : Nat)) ∧ (distD rows).1.length ≤ rows.length ∧ (∀ r ∈ (distD rows).1, r.length ≤ M) ∧ (orderD (distD rows).1).length = (distD rows).1.length := by
  have dl := foldD_len rows ([], [])
  have hD : rows.foldl dStep ([], []) = distD rows := rfl
  rw [hD] at dl
  simp only [List.length_nil,Nat.zero_add] at dl
  have dm : ∀ r ∈ (distD rows).1, r.length ≤ M := fun r hr => by
    rcases foldD_mem rows ([], []) r (by rw [hD]; exact hr) with h | h
    · simp at h
    · exact hM r h
  obtain ⟨op, _⟩ := orderD_ok (distD rows).1
  have hol : (orderD (distD rows).1).length = (distD rows).1.length := by rw [op.length_eq, iotaI_len]
  obtain ⟨b1, b2, b3⟩ := layFold_len (distD rows).1 M dm (orderD (distD rows).1) (List.replicate (distD rows).1.length 0, [], []) rfl
  have hmul2 : (orderD (distD rows).1).length * M ≤ rows.length * M := Nat.mul_le_mul_right M (by omega)
  simp only [List.length_replicate,List.length_nil,Nat.zero_add] at b1 b3
  have b4 := layFold_base (distD rows).1 M (rows.length * M) dm (orderD (distD rows).1) (List.replicate (distD rows).1.length 0, [], []) rfl (fun x hx => by
    have := List.eq_of_mem_replicate hx
    omega) (by simpa using hmul2)
  exact ⟨b1, b2, Nat.le_trans b3 hmul2, b4, dl.1, dm, hol⟩
end Go.Proofs.Ytkgndbhflehhhaa.Ai
