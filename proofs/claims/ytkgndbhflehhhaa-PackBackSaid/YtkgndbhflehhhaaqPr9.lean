/- PackBack: the law. -/
import Derived.Test.YtkgndbhflehhhaaqPrb
import Derived.Test.YtkgndbhflehhhaaqPqA
namespace Go.Proofs.Ytkgndbhflehhhaa.Ai
open Go Go.Proofs
set_option linter.unusedVariables false
set_option linter.unusedSimpArgs false
set_option maxRecDepth 10000
set_option maxHeartbeats 4000000

theorem act_num (n : Int) (l : List (Int × Int)) (h : 0 ≤ numD n l) : actD (numD n l) = some l ∧ l.length ≤ 1 := by
  match l, h with
  | [], _ => exact ⟨rfl, by simp⟩
  | [(k, m)], h =>
    refine ⟨?_, by simp⟩
    rw [numD] at h ⊢
    split at h
    · omega
    rename_i c0
    rw [if_neg c0]
    split at h
    · rename_i c1
      rw [if_pos c1]
      have e1 : (4 * m + 1) % 4 = 1 := by omega
      have e2 : (4 * m + 1) / 4 = m := by omega
      rw [actD, if_neg (by omega), if_neg (by omega), if_pos ⟨by omega, e1⟩, e2, c1.1]
    · rename_i c1
      rw [if_neg c1]
      split at h
      · rename_i c2
        rw [if_pos c2]
        have e1 : (4 * m + 2) % 4 = 2 := by omega
        have e2 : (4 * m + 2) / 4 = m := by omega
        rw [actD, if_neg (by omega), if_neg (by omega), if_neg (by omega), if_pos ⟨by omega, e1⟩, e2, c2.1]
      · rename_i c2
        rw [if_neg c2]
        split at h
        · rename_i c3
          rw [if_pos c3, c3.1, c3.2]; rfl
        · omega
  | a :: b :: r, h => rw [numD] at h <;> first | omega | simp
theorem goto_num (n x : Int) (h : 0 ≤ gtoD n x) : gtoD n x - 1 = x ∧ -1 ≤ x ∧ x < n := by
  unfold gtoD at h ⊢
  split at h
  · omega
  · rename_i c
    rw [if_neg c]; omega
theorem nonNeg_mem {l : List Int} (h : nonNeg l = true) : ∀ x ∈ l, 0 ≤ x := fun x hx => by
  have := List.all_eq_true.1 h x hx
  simpa using this
theorem map_range_eq {α : Type} (l : List α) (f : Nat → α) (h : ∀ i (hi : i < l.length), f i = l[i]) : (List.range' 0 l.length).map f = l := by
  refine List.ext_getElem (by simp) (fun i h1 h2 => ?_)
  simp only [List.getElem_map,List.getElem_range',Nat.one_mul,Nat.zero_add]
  exact h i h2

theorem setX_mem {l : List Int} {k : Nat} {x y : Int} (h : y ∈ setX l k x) : y ∈ l ∨ y = 0 ∨ y = x := by
  rcases List.mem_or_eq_of_mem_set h with h | h
  · unfold extL at h
    rcases List.mem_append.1 h with h | h
    · exact .inl h
    · exact .inr (.inl (List.eq_of_mem_replicate h))
  · exact .inr (.inr h)
theorem placeD_mem : ∀ (row : List Int) (s : List Int × List Int) (k : Nat) (r y : Int), y ∈ (placeD s row k r).1 → y ∈ s.1 ∨ y = 0 ∨ y ∈ row := by
  intro row
  induction row with
  | nil => intro s k r y h; exact .inl h
  | cons x row ih =>
    intro s k r y h
    rw [placeD] at h
    split at h
    · rcases ih _ _ _ _ h with h | h | h
      · exact .inl h
      · exact .inr (.inl h)
      · exact .inr (.inr (by simp [h]))
    · rcases ih _ _ _ _ h with h | h | h
      · rcases setX_mem h with h | h | h
        · exact .inl h
        · exact .inr (.inl h)
        · exact .inr (.inr (by simp [h]))
      · exact .inr (.inl h)
      · exact .inr (.inr (by simp [h]))
theorem layFold_mem (own : List (List Int)) : ∀ (ord : List Int) (s : List Int × List Int × List Int) (y : Int), y ∈ (ord.foldl (layStep own) s).2.1 → y ∈ s.2.1 ∨ y = 0 ∨ ∃ r ∈ own, y ∈ r := by
  intro ord
  induction ord with
  | nil => intro s y h; exact .inl h
  | cons a ord ih =>
    intro s y h
    rw [List.foldl_cons] at h
    rcases ih _ _ h with h | h | h
    · rcases placeD_mem _ _ _ _ _ h with h | h | h
      · exact .inl h
      · exact .inr (.inl h)
      · refine .inr (.inr ⟨own.getD a.toNat [], ?_, h⟩)
        by_cases q : a.toNat < own.length
        · simp [q]
        · simp [q] at h
    · exact .inr (.inl h)
    · exact .inr (.inr h)
theorem rt_lay {rows : List (List Int)} {M : Nat} (hM : ∀ r ∈ rows, r.length ≤ M) (h1 : rows.length ≤ 1000000) (h2 : rows.length * M ≤ 100000000) (hb : ∀ r ∈ rows, ∀ x ∈ r, -9223372036854775808 ≤ x ∧ x ≤ 9223372036854775807) : RtOk (layT rows) := by
  obtain ⟨s1, s2, s3, s4, s5, s6, s7⟩ := lay_sizes rows M hM
  have s0 : (layT rows).row.length = rows.length := dist_len rows
  refine ⟨by omega, by omega, by omega, by omega, fun x hx => by have := s4 x hx; omega, fun x hx => ?_⟩
  rcases layFold_mem _ _ _ _ hx with h | h | ⟨r, hr, h⟩
  · simp at h
  · omega
  · have hD : rows.foldl dStep ([], []) = distD rows := rfl
    rcases foldD_mem rows ([], []) r (by rw [hD]; exact hr) with k | k
    · simp at k
    · exact hb r k x h
theorem numD_le (n : Int) (hn : n ≤ 4096) (l : List (Int × Int)) : -1 ≤ numD n l ∧ numD n l ≤ 20000 := by
  match l with
  | [] => exact ⟨by rw [numD]; omega, by rw [numD]; omega⟩
  | [(k, m)] =>
    rw [numD]
    split
    · omega
    · split
      · omega
      · split
        · omega
        · split <;> omega
  | a :: b :: r => rw [numD] <;> first | omega | simp
theorem gtoD_le (n x : Int) (hn : 0 ≤ n ∧ n ≤ 4096) : -1 ≤ gtoD n x ∧ gtoD n x ≤ 4096 := by
  unfold gtoD
  split <;> omega

section
variable {t : TabD}
/-- The packed tables are within bounds. -/
theorem packD_rt (hk : t.ok) (hn : t.acts.length ≤ 1500) : RtOk (packD t).a ∧ RtOk (packD t).g := by
  obtain ⟨s1, s2, s3, s4⟩ := TabD.sizes hk
  obtain ⟨f1, f2, f3, f4, f5, f6, f7⟩ := hk.1
  have m1 : t.numA.length * 256 ≤ 1500 * 256 := Nat.mul_le_mul_right 256 (by omega)
  have m2 : t.numG.length * 512 ≤ 1500 * 512 := Nat.mul_le_mul_right 512 (by omega)
  refine ⟨rt_lay (M := 256) (fun r hr => by rw [s3 r hr]; omega) (by omega) (by omega) (fun r hr x hx => ?_), rt_lay (M := 512) (fun r hr => by rw [s4 r hr]; omega) (by omega) (by omega) (fun r hr x hx => ?_)⟩
  · simp only [TabD.numA,rowsA,List.mem_map] at hr
    obtain ⟨a, _, rfl⟩ := hr
    obtain ⟨c, _, rfl⟩ := List.mem_map.1 hx
    have := numD_le t.acts.length (by omega) c
    omega
  · simp only [TabD.numG,rowsG,List.mem_map] at hr
    obtain ⟨a, _, rfl⟩ := hr
    obtain ⟨c, _, rfl⟩ := List.mem_map.1 hx
    have := gtoD_le t.acts.length c (by omega)
    omega
/-- What a packed table is read back to. -/
theorem back_pack (hk : t.ok) (hn : t.acts.length ≤ 1500) : tabB (packD t) = t ∧ backOk (packD t) := by
  obtain ⟨s1, s2, s3, s4⟩ := TabD.sizes hk
  obtain ⟨o1, o2, o3⟩ := TabD.ok_len hk
  have fr := hk.1
  obtain ⟨l1, l2⟩ := allOk_len 0 t.tm t.nt t.acts t.gotos fr.2.2.1.symm o1
  obtain ⟨f1, f2, f3, f4, f5, f6, f7⟩ := fr
  obtain ⟨a1, a2, a3, a4, a5, a6, a7⟩ := lay_sizes t.numA 256 (fun r hr => by rw [s3 r hr]; omega)
  obtain ⟨b1, b2, b3, b4, b5, b6, b7⟩ := lay_sizes t.numG 512 (fun r hr => by rw [s4 r hr]; omega)
  have en : (packD t).n = t.acts.length := by
    show (layT t.numA).row.length = _
    have : (layT t.numA).row.length = t.numA.length := dist_len _
    omega
  have eg : (packD t).g.row.length = t.acts.length := by
    show (layT t.numG).row.length = _
    have : (layT t.numG).row.length = t.numG.length := dist_len _
    omega
  have etm : (packD t).tm = t.tm := rfl
  have ent : (packD t).nt = t.nt := rfl
  -- the entries
  have atA : ∀ (s k : Nat) (hs : s < t.acts.length) (hk : k < t.acts[s].length), atD (packD t).a s k = numD t.acts.length t.acts[s][k] := fun s k hs hk => by
    have := at_lay t.numA a2 a1 s (by omega) k
    have e : (packD t).a = layT t.numA := rfl
    rw [e, this]
    simp [TabD.numA, rowsA, hs, hk]
  have atG : ∀ (s k : Nat) (hs : s < t.gotos.length) (hk : k < t.gotos[s].length), atD (packD t).g s k = gtoD t.acts.length t.gotos[s][k] := fun s k hs hk => by
    have := at_lay t.numG b2 b1 s (by omega) k
    have e : (packD t).g = layT t.numG := rfl
    rw [e, this]
    simp [TabD.numG, rowsG, hs, hk]
  have nnA : ∀ (s k : Nat) (hs : s < t.acts.length) (hk : k < t.acts[s].length), 0 ≤ numD t.acts.length t.acts[s][k] := fun s k hs hk =>
    nonNeg_mem (List.all_eq_true.1 o2 (t.acts[s].map (numD t.acts.length)) (List.mem_map.2 ⟨_, List.getElem_mem hs, rfl⟩)) _ (List.mem_map.2 ⟨_, List.getElem_mem hk, rfl⟩)
  have nnG : ∀ (s k : Nat) (hs : s < t.gotos.length) (hk : k < t.gotos[s].length), 0 ≤ gtoD t.acts.length t.gotos[s][k] := fun s k hs hk =>
    nonNeg_mem (List.all_eq_true.1 o3 (t.gotos[s].map (gtoD t.acts.length)) (List.mem_map.2 ⟨_, List.getElem_mem hs, rfl⟩)) _ (List.mem_map.2 ⟨_, List.getElem_mem hk, rfl⟩)
  have rA : ∀ (s : Nat) (hs : s < t.acts.length), rowA (packD t) s 0 t.tm = t.acts[s] ∧ okA (packD t) s 0 t.tm = true := fun s hs => by
    have hl := l1 _ (List.getElem_mem hs)
    rw [← hl]
    constructor
    · unfold rowA
      refine map_range_eq _ _ (fun k hk => ?_)
      rw [atA s k hs hk, (act_num _ _ (nnA s k hs hk)).1]; rfl
    · unfold okA
      rw [List.all_eq_true]
      intro k hk
      have hk' : k < t.acts[s].length := by
        have := List.mem_range'.1 hk
        obtain ⟨i, h1, h2⟩ := this
        omega
      rw [atA s k hs hk', (act_num _ _ (nnA s k hs hk')).1]; rfl
  have rG : ∀ (s : Nat) (hs : s < t.gotos.length), rowG (packD t) s 0 t.nt = t.gotos[s] := fun s hs => by
    have hl := l2 _ (List.getElem_mem hs)
    rw [← hl]
    unfold rowG
    refine map_range_eq _ _ (fun k hk => ?_)
    obtain ⟨g1, g2, g3⟩ := goto_num _ _ (nnG s k hs hk)
    rw [atG s k hs hk, g1]
    exact w64 (by omega) (by omega)
  have eT : tabB (packD t) = t := by
    have e1 : actsB (packD t) t.tm 0 t.acts.length = t.acts := by
      unfold actsB
      exact map_range_eq _ _ (fun s hs => (rA s hs).1)
    have e2 : gotosB (packD t) t.nt 0 t.acts.length = t.gotos := by
      unfold gotosB
      rw [← f3]
      exact map_range_eq _ _ (fun s hs => rG s hs)
    unfold tabB
    rw [en, etm, ent, e1, e2]
  refine ⟨eT, ⟨?_, ?_, ?_, ?_, by rw [en]; exact f1, by rw [en]; exact f2, by rw [eg, en]⟩, ?_, by rw [eT]; exact hk, by rw [eT]⟩
  · show (2 : Int) ≤ (t.tm : Int); omega
  · show (t.tm : Int) ≤ 256; omega
  · show (1 : Int) ≤ (t.nt : Int); omega
  · show (t.nt : Int) ≤ 512; omega
  · unfold okAll
    rw [en, etm, List.all_eq_true]
    intro s hs
    have hs' : s < t.acts.length := by
      have := List.mem_range'.1 hs
      obtain ⟨i, h1, h2⟩ := this
      omega
    exact (rA s hs').2
/-- The entries of a table that can be packed are short. -/
theorem ok_short (hk : t.ok) : ∀ r ∈ t.acts, ∀ c ∈ r, c.length ≤ 1 := by
  obtain ⟨o1, o2, o3⟩ := TabD.ok_len hk
  intro r hr c hc
  have := nonNeg_mem (List.all_eq_true.1 o2 (r.map (numD t.acts.length)) (List.mem_map.2 ⟨_, hr, rfl⟩)) _ (List.mem_map.2 ⟨_, hc, rfl⟩)
  exact (act_num _ _ this).2
end

section
variable {t : TabD} {av gv : AV}
theorem f_PackBack (ha : LiG (LiG LiA) t.acts av) (hg : LiR t.gotos gv) (hL0 : t.acts.length ≤ maxLen) (hL1 : t.gotos.length ≤ maxLen) (hL : ∀ r ∈ t.acts, r.length ≤ maxLen) (H : AHeap) : lim G0.cfg (.func 7) [.agg [av, gv]] H = some (.bool true, H) := by
  refine lim_flat rfl rfl P_l32_PackBack 1 (tab_fz ha hg) ?_ (fun _ => rfl) H
  have hk := knows
  obtain ⟨b, hb, c1⟩ := f_Few ha hg hL0 hL1 hL
  have bx := tab_box ha hg
  obtain ⟨A, hA⟩ : ∃ A, A = AObj.arr 0 2 true [[av, gv]] := ⟨_, rfl⟩
  have lT : ∀ l : AHeap, aload (A :: l) 2 true (.ptr 0 0 0 0) = some (.agg [av, gv]) := fun l => ld_full (b := true) (by rw [hA]; rfl) rfl
  cases b with
  | false =>
    rw [R_l32_PackBack]
    simp only [Zab,Zac,Zad,Zai,Zaj,Zak,Zam,Zar,Zay,Zaz,Zbi,Zbk,Zbn,Zbo,Zbr,Zcp,Zcq,Zcs,Zcu,Zcv,Zcw,Zcx,Zcz,Zda,List.set_cons_zero,List.set_cons_succ,List.getD_cons_zero,List.getD_cons_succ,Option.map_some,Zdr,Zeb,Bool.not_false,List.length_cons,List.length_nil,if_true,Nat.reduceAdd,Nat.reduceSub,eq_self,true_and,List.length_cons,List.length_nil,List.replicate_succ,List.replicate_zero,List.cons_append,List.nil_append,List.nil_append,List.length_nil,← hA,lT,c1,hk,resAll,resVals,resVal,Option.some.injEq,Prod.mk.injEq,true_and,exists_eq']
  | true =>
    have hn : t.ok → t.acts.length ≤ 1500 := fun k => by have := hb rfl; have := k.1.2.1; omega
    have fz : freeze [A] 1000 (.agg [av, gv]) = some (.agg [av, gv], true && (true && true)) := fz_agg2 (k := 999) (ha.fz _ 998) (hg.fz _ 998)
    obtain ⟨k1, k2⟩ := f_Of (h := [A]) ha hg hn fz (by simp [cellsOf])
    have zc : cellsOf (.agg zeroP) = zeroP := rfl
    obtain ⟨B, hB⟩ : ∃ B, B = AObj.arr 0 10 true [zeroP] := ⟨_, rfl⟩
    have zl : zeroP.length = 10 := rfl
    have zz : [AV.int .i64 0, .int .i64 0, .nilS, .nilS, .nilS, .nilS, .nilS, .nilS, .nilS, .nilS] = zeroP := rfl
    by_cases ok : t.ok
    · obtain ⟨cs, h', pv, e1⟩ := k1 ok
      obtain ⟨p1, p2, p3⟩ := pv.cells
      obtain ⟨K, hK⟩ : ∃ K : AHeap, K = [A] ++ h' := ⟨_, rfl⟩
      rw [← hK] at e1
      obtain ⟨rA, rG⟩ := packD_rt ok (hn ok)
      obtain ⟨eT, bk⟩ := back_pack ok (hn ok)
      have pn : (packD t).n ≤ 1500 := by
        have := (tabB_len (packD t)).1
        rw [eT] at this
        have := hn ok; omega
      obtain ⟨av2, gv2, g1, g2, e2⟩ := (f_Back pv rA rG pn).1 bk
      have e3 := (f_Right pv rA rG pn).1 bk
      rw [eT] at g1 g2
      obtain ⟨f1, f2, f3, f4, f5, f6, f7⟩ := ok.1
      obtain ⟨ol, _, _⟩ := TabD.ok_len ok
      obtain ⟨l1, l2⟩ := allOk_len 0 t.tm t.nt t.acts t.gotos f3.symm ol
      have e4 := r_SameTable ha hg g1 g2 (by omega) (by omega) (fun r hr => by rw [l1 r hr]; omega) (fun r hr c hc => by have := ok_short ok r hr c hc; omega) (fun r hr => by rw [l2 r hr]; omega)
      have s := st_full (h := K ++ [B]) (i := K.length) (ver := 0) (n := 10) (b := true) (z := zeroP) (l := cs) ((get_new _ _).trans (by rw [hB])) rfl p3 p1 p2
      rw [set_new] at s
      obtain ⟨Z, hZ⟩ : ∃ Z : AHeap, Z = K ++ [.arr 0 10 true [cs]] := ⟨_, rfl⟩
      rw [← hZ] at s
      have lz : ∀ L : AHeap, aload (Z ++ L) 10 true (.ptr K.length 0 0 0) = some (.agg cs) := fun L => ld_full (b := true) (get_app (by rw [hZ]; exact get_new _ _) L) p3
      have lz0 := lz []
      rw [List.append_nil] at lz0
      have s2 := st_full (h := Z ++ [.arr 0 2 true [[.nilS, .nilS]]]) (i := Z.length) (ver := 0) (n := 2) (b := true) (z := [.nilS, .nilS]) (l := [av2, gv2]) (get_new _ _) rfl rfl (by simp [cellsOf]) (by simp only [List.all_cons,List.all_nil,g1.cell.2,g2.cell.2,Bool.and_self])
      rw [set_new] at s2
      have lq : aload (Z ++ [.arr 0 2 true [[av2, gv2]]]) 2 true (.ptr Z.length 0 0 0) = some (.agg [av2, gv2]) := ld_full (b := true) (get_new _ _) rfl
      have lt0 : ∀ L : AHeap, aload (Z ++ L) 2 true (.ptr 0 0 0 0) = some (.agg [av, gv]) := fun L => ld_full (b := true) (get_app (by rw [hZ, hK, hA]; rfl) L) rfl
      have d0 : decide ((0 : Int) = 0) = true := rfl
      rw [R_l32_PackBack]
      simp only [Zaa,Zab,Zac,Zad,Zai,Zaj,Zak,Zas,Zay,Zaz,Zba,Zbb,Zbg,Zbi,Zbj,Zbk,Zbl,Zbm,Zbn,Zbo,Zbp,Zbq,Zbr,Zcf,Zcp,Zcq,Zcs,Zcu,Zcv,Zcw,Zcx,Zcy,Zcz,Zda,List.set_cons_zero,List.set_cons_succ,List.getD_cons_zero,List.getD_cons_succ,Option.map_some,Zdl,Zdm,Zdr,Zeb,Zem,decide_true,Bool.not_true,List.getElem?_cons_zero,List.getElem?_cons_succ,List.length_cons,List.length_nil,if_true,Nat.reduceAdd,Nat.reduceSub,eq_self,true_and,List.length_cons,List.length_nil,List.replicate_succ,List.replicate_zero,List.cons_append,List.nil_append,List.nil_append,List.length_nil,zz,zl,← hA, ← hB,lT,c1,e1,s,lz0,lz,e2,s2,lq,lt0,e4,e3,hk,resAll,resVals,resVal,Option.some.injEq,Prod.mk.injEq,true_and,exists_eq']
    · obtain ⟨h', e1⟩ := k2 ok
      obtain ⟨K, hK⟩ : ∃ K : AHeap, K = [A] ++ h' := ⟨_, rfl⟩
      rw [← hK] at e1
      have s := st_full (h := K ++ [B]) (i := K.length) (ver := 0) (n := 10) (b := true) (z := zeroP) (l := zeroP) ((get_new _ _).trans (by rw [hB])) rfl rfl zc rfl
      rw [set_new, ← hB] at s
      have gz : (K ++ [B])[K.length]? = some (.arr 0 10 true [zeroP]) := (get_new _ _).trans (by rw [hB])
      have t1 : aload (K ++ [B]) 1 false (.ptr K.length 0 0 0) = some (.int .i64 0) := by rw [ld_p _ 1 K.length 0 0 0 false 10 true _ _ gz rfl]; rfl
      have t2 : aload (K ++ [B]) 1 false (.ptr K.length 0 0 1) = some (.int .i64 0) := by rw [ld_p _ 1 K.length 0 0 1 false 10 true _ _ gz rfl]; rfl
      have t3 : aload (K ++ [B]) 1 false (.ptr K.length 0 0 2) = some .nilS := by rw [ld_p _ 1 K.length 0 0 2 false 10 true _ _ gz rfl]; rfl
      have t4 : aload (K ++ [B]) 1 false (.ptr K.length 0 0 6) = some .nilS := by rw [ld_p _ 1 K.length 0 0 6 false 10 true _ _ gz rfl]; rfl
      have d0 : decide ((34 : Int) = 0) = false := rfl
      have d1 : decide ((0 : Int) = 0) = true := rfl
      have nl : ∀ h, alen h .slice .nilS = some (.int .i64 0) := fun _ => rfl
      rw [R_l32_PackBack]
      simp only [Zaa,Zab,Zac,Zad,Zai,Zaj,Zak,Zam,Zar,Zas,Zay,Zaz,Zba,Zbb,Zbg,Zbi,Zbj,Zbk,Zbl,Zbm,Zbn,Zbo,Zbp,Zbq,Zbr,Zby,Zcf,Zcg,Zcp,Zcq,Zcs,Zcu,Zcv,Zcw,Zcx,Zcy,Zcz,Zda,List.set_cons_zero,List.set_cons_succ,List.getD_cons_zero,List.getD_cons_succ,Option.map_some,Zdl,Zdm,Zdr,Zdx,Zeb,Zem,decide_true,decide_false,Bool.not_true,Bool.not_false,List.getElem?_cons_zero,List.getElem?_cons_succ,List.length_cons,List.length_nil,if_true,Nat.reduceAdd,Nat.reduceSub,Int.reduceEq,eq_self,true_and,List.length_cons,List.length_nil,List.replicate_succ,List.replicate_zero,List.cons_append,List.nil_append,List.nil_append,List.length_nil,zz,zl,← hA, ← hB,lT,c1,e1,s,t1,t2,t3,t4,nl,hk,resAll,resVals,resVal,Option.some.injEq,Prod.mk.injEq,true_and,exists_eq']
end
end Go.Proofs.Ytkgndbhflehhhaa.Ai
