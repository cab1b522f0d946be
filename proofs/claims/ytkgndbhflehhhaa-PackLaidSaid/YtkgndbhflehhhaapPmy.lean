/- The reference of pack.Lay: the order as a whole; it is the one order. -/
import Derived.Test.YtkgndbhflehhhaapPmz
namespace Go.Proofs.Ytkgndbhflehhhaa.Ai
open Go Go.Proofs
set_option linter.unusedVariables false
set_option linter.unusedSimpArgs false
set_option maxRecDepth 10000
set_option maxHeartbeats 4000000

theorem ordStep_perm (own : List (List Int)) (l : List Int) (i : Int) : List.Perm (ordStep own l i) (i :: l) := by
  unfold ordStep
  exact List.perm_middle.trans (by rw [List.takeWhile_append_dropWhile])
theorem ordStep_len (own : List (List Int)) (l : List Int) (i : Int) : (ordStep own l i).length = l.length + 1 := by rw [(ordStep_perm own l i).length_eq, List.length_cons]

section
variable {own : List (List Int)} {v : AV}
theorem drop_tw (p : Int → Bool) : ∀ l : List Int, l.drop (l.takeWhile p).length = l.dropWhile p := by
  intro l
  induction l with
  | nil => rfl
  | cons a l ih =>
    by_cases e : p a = true
    · rw [List.takeWhile_cons_of_pos e, List.dropWhile_cons_of_pos e, List.length_cons, List.drop_succ_cons, ih]
    · rw [List.takeWhile_cons_of_neg e, List.dropWhile_cons_of_neg e]; rfl
theorem tw_le (p : Int → Bool) : ∀ l : List Int, (l.takeWhile p).length ≤ l.length := by
  intro l
  induction l with
  | nil => exact Nat.le_refl _
  | cons a l ih =>
    by_cases e : p a = true
    · rw [List.takeWhile_cons_of_pos e, List.length_cons, List.length_cons]; omega
    · rw [List.takeWhile_cons_of_neg e]; simp

theorem r_Ord_0 (hv : LiR own v) (hm : ∀ r ∈ own, r.length ≤ 1000000) (hn : own.length ≤ 900000) (N : Nat) (hN : 1000001 ≤ N) :
    ∀ (d i m : Nat) (l : List Int) (h : AHeap) (t3 : AV) (q3 : Option Nat), own.length = i + d → d < m → OwnG 1 (eIs l) t3 h q3 → l.length = i → (∀ x ∈ l, 0 ≤ x ∧ x < own.length) →
      ∃ (h' : AHeap) (t3' : AV) (q3' : Option Nat), loopN (evalCode (lim G0.cfg) N B_r32_Order_0) m ⟨(v :: .junk::.junk :: t3 :: .int .i64 i :: .junk::.junk::.junk::.junk::.junk::.junk::.junk::.junk::.junk::.junk::.junk::.junk::.junk::.junk::.junk::.junk::.junk::.junk::.junk::.junk::.junk::.junk::.junk::.junk::.junk::.junk::.junk::.junk::.junk::.junk::.junk::.junk::.junk::.junk::.junk::.junk::.junk::.junk::.junk::.junk::.junk::.junk::.junk::.junk::.junk::.junk::.junk::.junk::.junk::.junk::.junk::.junk::.junk::.junk::.junk::.junk :: []), h⟩ = some (.exit 0, ⟨(.junk::.junk::.junk :: t3' :: .junk::.junk::.junk::.junk::.junk::.junk::.junk::.junk::.junk::.junk::.junk::.junk::.junk::.junk::.junk::.junk::.junk::.junk::.junk::.junk::.junk::.junk::.junk::.junk::.junk::.junk::.junk::.junk::.junk::.junk::.junk::.junk::.junk::.junk::.junk::.junk::.junk::.junk::.junk::.junk::.junk::.junk::.junk::.junk::.junk::.junk::.junk::.junk::.junk::.junk::.junk::.junk::.junk::.junk::.junk::.junk::.junk :: []), h'⟩) ∧ OwnG 1 (eIs (((iotaI own.length).drop i).foldl (ordStep own) l)) t3' h' q3' := by
  have lv0 := hv.len
  intro d
  induction d with
  | zero =>
    intro i m l h t3 q3 h1 h2 o3 hl hlm
    obtain ⟨m, rfl⟩ : ∃ q, m = q + 1 := ⟨m - 1, by omega⟩
    have h3 : ¬ ((i : Int) < own.length) := by omega
    have q1 : (iotaI own.length).drop i = [] := List.drop_eq_nil_iff.2 (by rw [iotaI_len]; omega)
    rw [q1]
    refine ⟨h, t3, q3, ?_, o3⟩
    simp only [loop_e,EB_r32_Order_0,Zab,Zac,Zad,Zag,Zah,Zaj,Zak,Zal,Zas,Zav,Zay,Zbi,Zbk,Zbq,Zcg,Zcv,Zcx,Zdb,Zdc,Zdd,List.set_cons_zero,List.set_cons_succ,List.getD_cons_zero,List.getD_cons_succ,Zdh,decide_false,eq_self,lv0,h3]
  | succ d ih =>
    intro i m l h t3 q3 h1 h2 o3 hl hlm
    obtain ⟨m, rfl⟩ : ∃ q, m = q + 1 := ⟨m - 1, by omega⟩
    have h3 : i < own.length := by omega
    have h3' : (i : Int) < own.length := by omega
    have hw := w64s (n := i) (by omega)
    have hi' : i < (iotaI own.length).length := by rw [iotaI_len]; exact h3
    have q1 : (iotaI own.length).drop i = ((i : Nat) : Int) :: (iotaI own.length).drop (i + 1) := by
      rw [List.drop_eq_getElem_cons hi']
      congr 1
      simp [iotaI]
    obtain ⟨h4, t5, q5, e1, o5, o3', hq⟩ := r_Ord_1 hv hm (by omega) i h3 l (by omega) hlm t3 q3 N l.length 0 N [] h .nilS none (by omega) (by omega) o3 (OwnG.nil 1 _) (fun _ e => (by cases e)) (by simp)
    rw [List.drop_zero, List.nil_append] at o5
    rw [List.drop_zero, Nat.zero_add, z0] at e1
    have tl := tw_le (notLess own i) l
    obtain ⟨j5, ver5, H2, r1, r2, r3, r4, r5⟩ := o5.push true (c := [.int .i64 ((i : Nat) : Int)]) rfl rfl (eIs_all _) 8 (by omega) (by rw [Zep]; omega)
    rw [Zep] at r1 r2
    rw [← eIs_snoc] at r2
    have o3'' := o3'.frame (h' := H2) fun i o f e => r3 i o e (fun g => hq i g f)
    have hq' : q3 ≠ some j5 := fun f => by
      rcases r4 with g | ⟨_, g⟩
      · exact hq j5 g f
      · rw [f] at o3'; have := o3'.lt; omega
    obtain ⟨H3, t6, q6, e2, o6⟩ := r_Ord_2 (v := v) i l (by omega) t3 q3 N (l.length - (l.takeWhile (notLess own i)).length) (l.takeWhile (notLess own i)).length N (l.takeWhile (notLess own i) ++ [(i : Int)]) H2 _ (some j5) (by omega) (by omega) o3'' r2 (fun i f => by cases f; exact hq') (by simp)
    have es : l.takeWhile (notLess own i) ++ [(i : Int)] ++ l.drop (l.takeWhile (notLess own i)).length = ordStep own l i := by rw [drop_tw, List.append_assoc, List.singleton_append]; rfl
    rw [es] at o6
    obtain ⟨h', t3', q3', e', g⟩ := ih (i + 1) m (ordStep own l i) H3 t6 q6 (by omega) (by omega) o6 (by rw [ordStep_len]; omega) (fun x hx => by
      rcases List.mem_cons.1 ((ordStep_perm own l i).mem_iff.1 hx) with h | h
      · subst h; omega
      · exact hlm x h)
    rw [q1, List.foldl_cons]
    refine ⟨h', t3', q3', ?_, g⟩
    rw [← e']
    have lt2 := fun h : AHeap => lit1' h (.int .i64 0) (.int .i64 ((i : Nat) : Int)) rfl rfl
    simp only [loop_e,EB_r32_Order_0,Zaa,Zab,Zac,Zad,Zae,Zaf,Zag,Zaj,Zak,Zan,Zap,Zar,Zat,Zau,Zay,Zaz,Zbi,Zbk,Zbq,Zcg,Zci,Zcn,Zcv,Zcw,Zcx,Zdb,Zdc,Zdd,List.set_cons_zero,List.set_cons_succ,List.getD_cons_zero,List.getD_cons_succ,Zde,Zdh,decide_true,eq_self,lv0,h3',e1,ev2,lt2,r1,e2,hw]

theorem r_Order (hv : LiR own v) (hm : ∀ r ∈ own, r.length ≤ 1000000) (hn : own.length ≤ 900000) : ∃ x, Li (orderD own) x ∧ ∀ H, lim G0.cfg (.func 28) [v] H = some (x, H) := by
  obtain ⟨h', t3, q3, e, o⟩ := r_Ord_0 hv hm hn 1000001 (by omega) own.length 0 1000001 [] [] .nilS none (by omega) (by omega) (OwnG.nil 1 _) rfl (fun _ h => (by simp at h))
  rw [List.drop_zero] at o
  rw [z0] at e
  have hO : (iotaI own.length).foldl (ordStep own) [] = orderD own := rfl
  rw [hO] at o
  have run : runFn (lim G0.cfg) 1000001 A_r32_Order [v] [] = some (t3, h') := by
    rw [R_r32_Order]
    simp only [Zab,Zac,Zae,Zaf,Zag,Zai,Zaj,Zak,Zap,Zat,Zbi,Zbk,Zcu,Zcv,Zcw,Zcx,Zdb,Zdc,Zdd,List.set_cons_zero,List.set_cons_succ,List.getD_cons_zero,List.getD_cons_succ,Option.map_some,List.length_cons,List.length_nil,Nat.reduceAdd,Nat.reduceSub,eq_self,List.length_cons,List.length_nil,List.replicate_succ,List.replicate_zero,List.cons_append,List.nil_append,e,resAll,resVals,resVal]
  obtain ⟨x, c, f1, f2⟩ := fzI o 998
  exact ⟨x, f2, fun H => lim_fz rfl rfl P_r32_Order 1000001 (fz_1 (hv.fz H 999)) run f1 rfl⟩
end
end Go.Proofs.Ytkgndbhflehhhaa.Ai
namespace Go.Proofs.Ytkgndbhflehhhaa.Ai
open Go Go.Proofs
set_option linter.unusedVariables false
set_option linter.unusedSimpArgs false

theorem key_lt (own : List (List Int)) (i x : Int) : keyD own i < keyD own x ↔ ¬ notLess own i x = true := by
  unfold keyD notLess cntX
  rw [decide_eq_true_eq]
  generalize cntD (own.getD x.toNat []) = a
  generalize cntD (own.getD i.toNat []) = b
  constructor <;> intro h <;> omega
theorem dw_head (p : Int → Bool) : ∀ l : List Int, l.dropWhile p = [] ∨ ∃ a r, l.dropWhile p = a :: r ∧ ¬ p a = true := by
  intro l
  induction l with
  | nil => exact .inl rfl
  | cons a l ih =>
    by_cases e : p a = true
    · rw [List.dropWhile_cons_of_pos e]; exact ih
    · rw [List.dropWhile_cons_of_neg e]; exact .inr ⟨a, l, rfl, e⟩
theorem tw_all (p : Int → Bool) : ∀ (l : List Int) (x : Int), x ∈ l.takeWhile p → p x = true := by
  intro l
  induction l with
  | nil => intro x h; simp at h
  | cons a l ih =>
    intro x h
    by_cases e : p a = true
    · rw [List.takeWhile_cons_of_pos e] at h
      rcases List.mem_cons.1 h with h | h
      · subst h; exact e
      · exact ih x h
    · rw [List.takeWhile_cons_of_neg e] at h; simp at h
theorem snoc_cases (l : List Int) : l = [] ∨ ∃ l1 x, l = l1 ++ [x] := by
  rcases List.eq_nil_or_concat l with h | ⟨a, b, h⟩
  · exact .inl h
  · exact .inr ⟨a, b, by rw [h]; try simp⟩
theorem ordStep_sorted (own : List (List Int)) (l : List Int) (i : Int) (hs : SortedK (keyD own) l) (hl : ∀ s ∈ l, s < i) : SortedK (keyD own) (ordStep own l i) := by
  have hs' : SortedK (keyD own) (l.takeWhile (notLess own i) ++ l.dropWhile (notLess own i)) := by rw [List.takeWhile_append_dropWhile]; exact hs
  refine insert_sorted hs' (by rw [List.takeWhile_append_dropWhile]; exact hl) ?_ ?_
  · intro q hq
    rcases dw_head (notLess own i) l with h | ⟨a, r, h, ha⟩
    · rw [h] at hq; simp at hq
    · have h2 := (List.pairwise_append.1 hs').2.1
      rw [h] at hq h2
      have ka := (key_lt own i a).2 ha
      rcases List.mem_cons.1 hq with e | e
      · subst e; exact ka
      · have := (List.pairwise_cons.1 h2).1 q e
        unfold lexlt at this
        omega
  · rcases snoc_cases (l.takeWhile (notLess own i)) with h | ⟨l1, x, h⟩
    · exact .inl h
    · refine .inr ⟨l1, x, h, fun hk => ?_⟩
      exact (key_lt own i x).1 hk (tw_all _ l x (by rw [h]; simp))
theorem foldO_perm (own : List (List Int)) : ∀ (xs l : List Int), List.Perm (xs.foldl (ordStep own) l) (l ++ xs) := by
  intro xs
  induction xs with
  | nil => intro l; rw [List.append_nil]; exact List.Perm.refl _
  | cons x xs ih =>
    intro l
    rw [List.foldl_cons]
    refine (ih _).trans ?_
    exact ((ordStep_perm own l x).append_right xs).trans List.perm_middle.symm
theorem foldO_sorted (own : List (List Int)) : ∀ (xs l : List Int), SortedK (keyD own) l → xs.Pairwise (· < ·) → (∀ s ∈ l, ∀ x ∈ xs, s < x) → SortedK (keyD own) (xs.foldl (ordStep own) l) := by
  intro xs
  induction xs with
  | nil => intro l h _ _; exact h
  | cons x xs ih =>
    intro l h1 h2 h3
    rw [List.foldl_cons]
    rw [List.pairwise_cons] at h2
    refine ih _ (ordStep_sorted own l x h1 fun s hs => h3 s hs x (by simp)) h2.2 fun s hs y hy => ?_
    rcases List.mem_cons.1 ((ordStep_perm own l x).mem_iff.1 hs) with e | e
    · subst e; exact h2.1 y hy
    · exact h3 s e y (by simp [hy])
theorem orderD_ok (own : List (List Int)) : OrdOk own (orderD own) := by
  refine ⟨?_, foldO_sorted own _ [] List.Pairwise.nil (iotaI_lt _) (by simp)⟩
  have := foldO_perm own (iotaI own.length) []
  rwa [List.nil_append] at this
theorem OrdOk.eq {own : List (List Int)} {ord : List Int} (h : OrdOk own ord) : ord = orderD own := by
  obtain ⟨p1, s1⟩ := h
  obtain ⟨p2, s2⟩ := orderD_ok own
  refine List.Perm.eq_of_pairwise (fun a b _ _ h1 h2 => ?_) s1 s2 (p1.trans p2.symm)
  unfold lexlt at h1 h2
  omega
end Go.Proofs.Ytkgndbhflehhhaa.Ai
