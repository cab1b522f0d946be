/- Grammars: the reference's checks, walked: levels, the whole. -/
import Derived.Test.YtkimloceaihplaapGf2
namespace Go.Proofs.Ytkimloceaihplaa.Ai
open Go Go.Proofs
set_option linter.unusedVariables false
set_option linter.unusedSimpArgs false
set_option maxRecDepth 10000
set_option maxHeartbeats 4000000

/-- An element of a row of the memory. -/
theorem ix_h {h : AHeap} {sz i v o n : Nat} {c : Option Nat} {k : IntKind} {j : Nat} {x : Bool} {l : List (List AV)} (hg : h[i]? = some (.arr v sz x l)) (hj : j < n) : aindexAddr h sz (.hsl i v o n c) (.int k j) = some (.ptr i v (o + j) 0) := by
  simp [aindexAddr, getArr, hg, hj]
/-- The terminals that have come, as a row of bools. -/
def rowB (T : Nat) (seen : List Int) : List (List AV) := (List.range T).map fun (t : Nat) => [.bool (decide ((t : Int) ∈ seen))]
theorem rowB_get {T : Nat} {seen : List Int} {t : Nat} (h : t < T) : (rowB T seen)[0 + t]? = some [.bool (decide ((t : Int) ∈ seen))] := by
  simp [rowB, h]
theorem rowB_set {T : Nat} {seen : List Int} {t : Nat} (h : t < T) : (rowB T seen).set (0 + t) [.bool true] = rowB T ((t : Int) :: seen) := by
  apply List.ext_getElem?
  intro j
  rw [Nat.zero_add, List.getElem?_set]
  by_cases e : t = j
  · subst e
    simp [rowB, h]
  · by_cases hj : j < T
    · have : ¬ (j : Int) = t := by omega
      simp [rowB, e, hj, this]
    · simp [rowB, e, hj]
theorem rowB_nil (T : Nat) : List.replicate T [AV.bool false] = rowB T [] := by
  apply List.ext_getElem?
  intro j
  by_cases hj : j < T <;> simp [rowB, hj]

theorem r_levels_loop1 (g : GramD) (hg : g.Ok) (n : Nat) (x : LevelD) (hx : x.terms.length ≤ maxLen) (i4 : Nat) (i5 : Nat) (hi5 : i5 ≠ 0 ∧ i5 ≠ 1) : ∀ (d i m : Nat) (seen : List Int) (h : AHeap), x.terms.length = i + d → d < m →
    h[0]? = some (.arr 0 5 true [eGram g]) → h[1]? = some (.arr 0 1 true (rowB g.terms.length seen)) → h[i5]? = some (.arr 0 2 true [eLevel x]) →
    match termsGo g.terms.length (x.terms.drop i) seen with
    | some s' => ∃ h', h'[0]? = some (.arr 0 5 true [eGram g]) ∧ h'[1]? = some (.arr 0 1 true (rowB g.terms.length s')) ∧
      loopN (evalCode (lim G0.cfg) n B_r15_levels_1) m ⟨(.junk :: .ptr 0 0 0 0 :: .junk :: .hsl 1 0 0 g.terms.length none :: .int .i64 i4 :: .ptr i5 0 0 0 :: .int .i64 i :: .junk::.junk::.junk::.junk::.junk::.junk::.junk::.junk::.junk::.junk::.junk::.junk::.junk::.junk::.junk::.junk::.junk::.junk::.junk::.junk::.junk::.junk::.junk::.junk::.junk::.junk::.junk::.junk::.junk::.junk::.junk::.junk::.junk::.junk::.junk::.junk::.junk::.junk::.junk::.junk::.junk::.junk::.junk::.junk::.junk::.junk::.junk::.junk::.junk::.junk::.junk::.junk::.junk::.junk::.junk :: []), h⟩ = some (.exit 2, ⟨(.junk :: .ptr 0 0 0 0 :: .junk :: .hsl 1 0 0 g.terms.length none :: .int .i64 i4 :: .junk::.junk::.junk::.junk::.junk::.junk::.junk::.junk::.junk::.junk::.junk::.junk::.junk::.junk::.junk::.junk::.junk::.junk::.junk::.junk::.junk::.junk::.junk::.junk::.junk::.junk::.junk::.junk::.junk::.junk::.junk::.junk::.junk::.junk::.junk::.junk::.junk::.junk::.junk::.junk::.junk::.junk::.junk::.junk::.junk::.junk::.junk::.junk::.junk::.junk::.junk::.junk::.junk::.junk::.junk::.junk::.junk :: []), h'⟩)
    | none => ∃ h', loopN (evalCode (lim G0.cfg) n B_r15_levels_1) m ⟨(.junk :: .ptr 0 0 0 0 :: .junk :: .hsl 1 0 0 g.terms.length none :: .int .i64 i4 :: .ptr i5 0 0 0 :: .int .i64 i :: .junk::.junk::.junk::.junk::.junk::.junk::.junk::.junk::.junk::.junk::.junk::.junk::.junk::.junk::.junk::.junk::.junk::.junk::.junk::.junk::.junk::.junk::.junk::.junk::.junk::.junk::.junk::.junk::.junk::.junk::.junk::.junk::.junk::.junk::.junk::.junk::.junk::.junk::.junk::.junk::.junk::.junk::.junk::.junk::.junk::.junk::.junk::.junk::.junk::.junk::.junk::.junk::.junk::.junk::.junk :: []), h⟩ = some (.ret, ⟨(.junk::.junk :: .bool false::.junk::.junk::.junk::.junk::.junk::.junk::.junk::.junk::.junk::.junk::.junk::.junk::.junk::.junk::.junk::.junk::.junk::.junk::.junk::.junk::.junk::.junk::.junk::.junk::.junk::.junk::.junk::.junk::.junk::.junk::.junk::.junk::.junk::.junk::.junk::.junk::.junk::.junk::.junk::.junk::.junk::.junk::.junk::.junk::.junk::.junk::.junk::.junk::.junk::.junk::.junk::.junk::.junk::.junk::.junk::.junk::.junk::.junk::.junk :: []), h'⟩) := by
  rw [maxLen_eq] at hx
  intro d
  induction d with
  | zero =>
    intro i m seen h h1 h2 hb hr hl
    obtain ⟨m, rfl⟩ : ∃ q, m = q + 1 := ⟨m - 1, by omega⟩
    have e1 : x.terms.drop i = [] := List.drop_eq_nil_iff.2 (by omega)
    have h3 : ¬ ((i : Int) < x.terms.length) := by omega
    rw [e1]
    exact ⟨h, hb, hr, by simp only [loop_e,EB_r15_levels_1,Zab,Zac,Zad,Zag,Zah,Zaj,Zak,Zal,Zas,Zav,Zay,Zbi,Zbk,Zbo,Zbq,Zby,Zcg,Zcu,Zcw,Zda,Zdb,Zdc,List.set_cons_zero,List.set_cons_succ,List.getD_cons_zero,List.getD_cons_succ,Option.bind_some,Zdg,Zds,Zdw,Zdy,Zeo,decide_false,List.getElem?_cons_zero,List.length_cons,List.length_nil,if_true,Nat.reduceAdd,Nat.reduceLeDiff,eq_self,aload,acells,getArr,part,List.drop_zero,List.drop_succ_cons,List.take_succ_cons,List.take_nil,List.set_cons_zero,hl,h3]⟩
  | succ d ih =>
    intro i m seen h h1 h2 hb hr hl
    obtain ⟨m, rfl⟩ : ∃ q, m = q + 1 := ⟨m - 1, by omega⟩
    have h3 : i < x.terms.length := by omega
    have h3' : (i : Int) < x.terms.length := by omega
    have e1 : x.terms.drop i = x.terms[i] :: x.terms.drop (i + 1) := List.drop_eq_getElem_cons h3
    have hw := w64s (n := i) (by omega)
    have ii := fun h => ix_eIs h false x.terms .i64 i h3
    rw [e1]
    simp only [termsGo]
    generalize x.terms[i] = t at *
    by_cases q1 : t < 2
    case pos =>
      rw [if_pos (.inl q1)]
      exact ⟨h, by simp only [loop_e,EB_r15_levels_1,Zaa,Zab,Zac,Zad,Zae,Zag,Zai,Zaj,Zak,Zam,Zao,Zar,Zaw,Zay,Zbd,Zbg,Zbi,Zbj,Zbk,Zbl,Zbo,Zbq,Zby,Zcb,Zcg,Zcu,Zcv,Zcw,Zda,Zdb,Zdc,List.set_cons_zero,List.set_cons_succ,List.getD_cons_zero,List.getD_cons_succ,Option.bind_some,Zdg,Zds,Zdw,Zdy,Zeo,decide_true,List.getElem?_cons_zero,List.length_cons,List.length_nil,if_true,Nat.reduceAdd,Nat.reduceLeDiff,eq_self,aload,acells,getArr,part,eI,List.drop_zero,List.drop_succ_cons,List.take_succ_cons,List.take_nil,List.set_cons_zero,hl,h3',ii,q1]⟩
    case neg =>
    by_cases q2 : (g.terms.length : Int) ≤ t
    case pos =>
      rw [if_pos (.inr (.inl q2))]
      exact ⟨h, by simp only [loop_e,EB_r15_levels_1,Zaa,Zab,Zac,Zad,Zae,Zag,Zai,Zaj,Zak,Zam,Zao,Zar,Zaw,Zay,Zbc,Zbd,Zbg,Zbh,Zbi,Zbj,Zbk,Zbl,Zbo,Zbq,Zby,Zcb,Zcg,Zcu,Zcv,Zcw,Zda,Zdb,Zdc,List.set_cons_zero,List.set_cons_succ,List.getD_cons_zero,List.getD_cons_succ,Option.bind_some,Zdg,Zdj,Zds,Zdw,Zdy,Zeo,Zep,decide_true,decide_false,List.getElem?_cons_zero,List.length_cons,List.length_nil,if_true,Nat.reduceAdd,Nat.reduceLeDiff,eq_self,aload,acells,getArr,part,eI,List.drop_zero,List.drop_succ_cons,List.take_succ_cons,List.take_zero,List.take_nil,List.set_cons_zero,hb,hl,h3',ii,q1,q2]⟩
    case neg =>
    obtain ⟨k, rfl⟩ : ∃ k : Nat, t = k := ⟨t.toNat, by omega⟩
    have hk : k < g.terms.length := by omega
    have ir := ix_h (c := none) (k := .i64) (o := 0) hr hk
    have rg := rowB_get (seen := seen) hk
    by_cases q3 : (k : Int) ∈ seen
    case pos =>
      rw [if_pos (.inr (.inr q3))]
      exact ⟨h, by simp only [loop_e,EB_r15_levels_1,Zaa,Zab,Zac,Zad,Zae,Zag,Zai,Zaj,Zak,Zam,Zao,Zar,Zaw,Zay,Zbc,Zbh,Zbi,Zbj,Zbk,Zbl,Zbo,Zbq,Zby,Zcb,Zcg,Zcu,Zcv,Zcw,Zda,Zdb,Zdc,List.set_cons_zero,List.set_cons_succ,List.getD_cons_zero,List.getD_cons_succ,Option.bind_some,Zdg,Zdj,Zds,Zdw,Zdy,Zeo,Zep,decide_true,decide_false,List.getElem?_cons_zero,List.length_cons,List.length_nil,if_true,Nat.reduceAdd,Nat.reduceLeDiff,eq_self,aload,acells,getArr,part,eI,List.drop_zero,List.drop_succ_cons,List.take_succ_cons,List.take_zero,List.take_nil,List.set_cons_zero,hb,hr,hl,h3',ii,q1,q2,ir,rg,q3]⟩
    case neg =>
    rw [if_neg (by rintro (h | h | h); exact q1 h; exact q2 h; exact q3 h)]
    have rs := rowB_set (seen := seen) hk
    have := ih (i + 1) m ((k : Int) :: seen) (h.set 1 (.arr 0 1 true (rowB g.terms.length ((k : Int) :: seen)))) (by omega) (by omega)
      (by rw [List.getElem?_set_ne (by omega)]; exact hb) (List.getElem?_set_self (List.getElem?_eq_some_iff.1 hr).1) (by rw [List.getElem?_set_ne (fun e => hi5.2 e.symm)]; exact hl)
    have hstep : loopN (evalCode (lim G0.cfg) n B_r15_levels_1) (m + 1) ⟨(.junk :: .ptr 0 0 0 0 :: .junk :: .hsl 1 0 0 g.terms.length none :: .int .i64 i4 :: .ptr i5 0 0 0 :: .int .i64 i :: .junk::.junk::.junk::.junk::.junk::.junk::.junk::.junk::.junk::.junk::.junk::.junk::.junk::.junk::.junk::.junk::.junk::.junk::.junk::.junk::.junk::.junk::.junk::.junk::.junk::.junk::.junk::.junk::.junk::.junk::.junk::.junk::.junk::.junk::.junk::.junk::.junk::.junk::.junk::.junk::.junk::.junk::.junk::.junk::.junk::.junk::.junk::.junk::.junk::.junk::.junk::.junk::.junk::.junk::.junk :: []), h⟩ =
        loopN (evalCode (lim G0.cfg) n B_r15_levels_1) m ⟨(.junk :: .ptr 0 0 0 0 :: .junk :: .hsl 1 0 0 g.terms.length none :: .int .i64 i4 :: .ptr i5 0 0 0 :: .int .i64 ((i + 1 : Nat) : Int) :: .junk::.junk::.junk::.junk::.junk::.junk::.junk::.junk::.junk::.junk::.junk::.junk::.junk::.junk::.junk::.junk::.junk::.junk::.junk::.junk::.junk::.junk::.junk::.junk::.junk::.junk::.junk::.junk::.junk::.junk::.junk::.junk::.junk::.junk::.junk::.junk::.junk::.junk::.junk::.junk::.junk::.junk::.junk::.junk::.junk::.junk::.junk::.junk::.junk::.junk::.junk::.junk::.junk::.junk::.junk :: []), h.set 1 (.arr 0 1 true (rowB g.terms.length ((k : Int) :: seen)))⟩ := by
      simp only [loop_e,EB_r15_levels_1,Zaa,Zab,Zac,Zad,Zae,Zag,Zaj,Zak,Zan,Zar,Zas,Zau,Zay,Zba,Zbc,Zbh,Zbi,Zbj,Zbk,Zbl,Zbo,Zbp,Zbq,Zby,Zcb,Zcg,Zcu,Zcv,Zcw,Zcx,Zda,Zdb,Zdc,List.set_cons_zero,List.set_cons_succ,List.getD_cons_zero,List.getD_cons_succ,Option.bind_some,Zdd,Zdg,Zdj,Zds,Zdw,Zdy,Zec,Zeo,Zep,decide_true,decide_false,List.getElem?_cons_zero,List.length_cons,List.length_nil,if_true,Nat.reduceAdd,Nat.reduceLeDiff,eq_self,and_self,aload,acells,getArr,part,eI,astore,putCells,List.all_cons,List.all_nil,cellOk,Bool.and_self,List.drop_zero,List.drop_succ_cons,List.take_succ_cons,List.take_zero,List.take_nil,List.cons_append,List.nil_append,List.set_cons_zero,hb,hr,hl,h3',ii,q1,q2,ir,rg,rs,q3,hw,List.set_cons_zero]
    simp only [hstep]
    exact this

theorem r_levels_loop0 (g : GramD) (hg : g.Ok) (n : Nat) (hn : ∀ l ∈ g.levels, l.terms.length < n) : ∀ (d i m : Nat) (seen : List Int) (h : AHeap), g.levels.length = i + d → d < m →
    h[0]? = some (.arr 0 5 true [eGram g]) → h[1]? = some (.arr 0 1 true (rowB g.terms.length seen)) →
    ∃ h', loopN (evalCode (lim G0.cfg) n B_r15_levels_0) m ⟨(.junk :: .ptr 0 0 0 0 :: .junk :: .hsl 1 0 0 g.terms.length none :: .int .i64 i :: .junk::.junk::.junk::.junk::.junk::.junk::.junk::.junk::.junk::.junk::.junk::.junk::.junk::.junk::.junk::.junk::.junk::.junk::.junk::.junk::.junk::.junk::.junk::.junk::.junk::.junk::.junk::.junk::.junk::.junk::.junk::.junk::.junk::.junk::.junk::.junk::.junk::.junk::.junk::.junk::.junk::.junk::.junk::.junk::.junk::.junk::.junk::.junk::.junk::.junk::.junk::.junk::.junk::.junk::.junk::.junk::.junk :: []), h⟩ =
      bif levelsGo g.terms.length (g.levels.drop i) seen then some (.exit 0, ⟨(.junk::.junk::.junk::.junk::.junk::.junk::.junk::.junk::.junk::.junk::.junk::.junk::.junk::.junk::.junk::.junk::.junk::.junk::.junk::.junk::.junk::.junk::.junk::.junk::.junk::.junk::.junk::.junk::.junk::.junk::.junk::.junk::.junk::.junk::.junk::.junk::.junk::.junk::.junk::.junk::.junk::.junk::.junk::.junk::.junk::.junk::.junk::.junk::.junk::.junk::.junk::.junk::.junk::.junk::.junk::.junk::.junk::.junk::.junk::.junk::.junk::.junk :: []), h'⟩) else some (.ret, ⟨(.junk::.junk :: .bool false::.junk::.junk::.junk::.junk::.junk::.junk::.junk::.junk::.junk::.junk::.junk::.junk::.junk::.junk::.junk::.junk::.junk::.junk::.junk::.junk::.junk::.junk::.junk::.junk::.junk::.junk::.junk::.junk::.junk::.junk::.junk::.junk::.junk::.junk::.junk::.junk::.junk::.junk::.junk::.junk::.junk::.junk::.junk::.junk::.junk::.junk::.junk::.junk::.junk::.junk::.junk::.junk::.junk::.junk::.junk::.junk::.junk::.junk::.junk :: []), h'⟩) := by
  have hm := hg.levels
  rw [maxLen_eq] at hm
  intro d
  induction d with
  | zero =>
    intro i m seen h h1 h2 hb hr
    obtain ⟨m, rfl⟩ : ∃ q, m = q + 1 := ⟨m - 1, by omega⟩
    have e1 : g.levels.drop i = [] := List.drop_eq_nil_iff.2 (by omega)
    have h3 : ¬ ((i : Int) < g.levels.length) := by omega
    exact ⟨h, by simp only [loop_e,EB_r15_levels_0,Zab,Zac,Zad,Zag,Zah,Zaj,Zak,Zal,Zas,Zav,Zay,Zbi,Zbk,Zbo,Zbq,Zby,Zcg,Zcu,Zcw,Zdb,Zdc,List.set_cons_zero,List.set_cons_succ,List.getD_cons_zero,List.getD_cons_succ,Option.bind_some,Zdg,Zds,Zdw,Zdy,decide_false,List.getElem?_cons_zero,List.length_cons,List.length_nil,if_true,Nat.reduceAdd,Nat.reduceLeDiff,eq_self,cond_true,List.length_map,aload,acells,getArr,part,List.drop_zero,List.drop_succ_cons,List.take_succ_cons,List.take_nil,List.set_cons_zero,List.length_map,hb,h3,e1,levelsGo]⟩
  | succ d ih =>
    intro i m seen h h1 h2 hb hr
    obtain ⟨m, rfl⟩ : ∃ q, m = q + 1 := ⟨m - 1, by omega⟩
    have h3 : i < g.levels.length := by omega
    have h3' : (i : Int) < g.levels.length := by omega
    have e1 : g.levels.drop i = g.levels[i] :: g.levels.drop (i + 1) := List.drop_eq_getElem_cons h3
    have hw := w64s (n := i) (by omega)
    have hmem : g.levels[i] ∈ g.levels := List.getElem_mem h3
    have hb2 := get_app hb [.arr 0 2 true [eLevel g.levels[i]]]
    have hr2 := get_app hr [.arr 0 2 true [eLevel g.levels[i]]]
    have ii := fun h => ix_map eLevel h 2 false g.levels .i64 i h3 rfl
    have hlen : h.length ≠ 0 ∧ h.length ≠ 1 := by have := (List.getElem?_eq_some_iff.1 hr).1; omega
    rw [e1]
    simp only [levelsGo]
    by_cases q1 : (g.levels[i]).assoc < 1
    case pos =>
      rw [if_pos (.inl q1)]
      exact ⟨h ++ [.arr 0 2 true [eLevel g.levels[i]]], by simp only [loop_e,EB_r15_levels_0,Zaa,Zab,Zac,Zad,Zae,Zag,Zai,Zaj,Zak,Zam,Zao,Zar,Zaw,Zay,Zba,Zbd,Zbg,Zbi,Zbj,Zbk,Zbl,Zbm,Zbo,Zbp,Zbq,Zby,Zcb,Zcg,Zcu,Zcv,Zcw,Zcx,Zda,Zdb,Zdc,List.set_cons_zero,List.set_cons_succ,List.getD_cons_zero,List.getD_cons_succ,Option.bind_some,Zdg,Zds,Zdw,Zdy,Zdz,Zea,decide_true,List.getElem?_cons_zero,List.length_cons,List.length_nil,if_true,Nat.reduceAdd,Nat.reduceLeDiff,eq_self,and_self,cond_false,List.length_map,aload,acells,getArr,part,astore,putCells,get_new,set_new,List.all_cons,List.all_nil,cellOk,Bool.and_self,List.drop_zero,List.drop_succ_cons,List.take_succ_cons,List.take_zero,List.take_nil,List.cons_append,List.nil_append,List.set_cons_zero,List.length_map,hb,h3',ii,q1]⟩
    case neg =>
    by_cases q2 : 4 < (g.levels[i]).assoc
    case pos =>
      rw [if_pos (.inr q2)]
      exact ⟨h ++ [.arr 0 2 true [eLevel g.levels[i]]], by simp only [loop_e,EB_r15_levels_0,Zaa,Zab,Zac,Zad,Zae,Zag,Zai,Zaj,Zak,Zam,Zao,Zar,Zaw,Zay,Zba,Zbc,Zbh,Zbi,Zbj,Zbk,Zbl,Zbm,Zbo,Zbp,Zbq,Zby,Zcb,Zcg,Zcu,Zcv,Zcw,Zcx,Zda,Zdb,Zdc,List.set_cons_zero,List.set_cons_succ,List.getD_cons_zero,List.getD_cons_succ,Option.bind_some,Zdg,Zdi,Zds,Zdw,Zdy,Zdz,Zea,decide_true,decide_false,List.getElem?_cons_zero,List.length_cons,List.length_nil,if_true,Nat.reduceAdd,Nat.reduceLeDiff,eq_self,and_self,cond_false,List.length_map,aload,acells,getArr,part,astore,putCells,get_new,set_new,List.all_cons,List.all_nil,cellOk,Bool.and_self,List.drop_zero,List.drop_succ_cons,List.take_succ_cons,List.take_zero,List.take_nil,List.cons_append,List.nil_append,List.set_cons_zero,List.length_map,hb,h3',ii,q1,q2]⟩
    case neg =>
    rw [if_neg (by omega)]
    have inner := r_levels_loop1 g hg n g.levels[i] (hg.level _ hmem) i h.length hlen (g.levels[i]).terms.length 0 n seen _ (by omega) (hn _ hmem) hb2 hr2 (get_new h _)
    rw [List.drop_zero, z0] at inner
    cases hq : termsGo g.terms.length (g.levels[i]).terms seen with
    | none =>
      rw [hq] at inner
      obtain ⟨h', e⟩ := inner
      refine ⟨h', ?_⟩
      simp only [loop_e,EB_r15_levels_0,Zaa,Zab,Zac,Zad,Zae,Zaf,Zag,Zaj,Zak,Zam,Zao,Zar,Zas,Zat,Zaw,Zay,Zba,Zbc,Zbh,Zbi,Zbj,Zbk,Zbl,Zbm,Zbo,Zbp,Zbq,Zby,Zcb,Zcg,Zcu,Zcv,Zcw,Zcx,Zda,Zdb,Zdc,List.set_cons_zero,List.set_cons_succ,List.getD_cons_zero,List.getD_cons_succ,Option.bind_some,Zdg,Zdi,Zds,Zdw,Zdy,Zdz,Zea,decide_true,decide_false,List.getElem?_cons_zero,List.length_cons,List.length_nil,if_true,Nat.reduceAdd,Nat.reduceLeDiff,eq_self,and_self,cond_false,List.length_map,aload,acells,getArr,part,astore,putCells,get_new,set_new,List.all_cons,List.all_nil,cellOk,Bool.and_self,List.drop_zero,List.drop_succ_cons,List.take_succ_cons,List.take_zero,List.take_nil,List.cons_append,List.nil_append,List.set_cons_zero,List.length_map,hb,h3',ii,q1,q2,e]
    | some s' =>
      rw [hq] at inner
      obtain ⟨h', hb', hr', e⟩ := inner
      obtain ⟨h'', e'⟩ := ih (i + 1) m s' h' (by omega) (by omega) hb' hr'
      refine ⟨h'', ?_⟩
      simp only [loop_e,EB_r15_levels_0,Zaa,Zab,Zac,Zad,Zae,Zaf,Zag,Zaj,Zak,Zan,Zap,Zar,Zas,Zat,Zau,Zay,Zba,Zbc,Zbh,Zbi,Zbj,Zbk,Zbl,Zbm,Zbo,Zbp,Zbq,Zby,Zcb,Zcg,Zcu,Zcv,Zcw,Zcx,Zda,Zdb,Zdc,List.set_cons_zero,List.set_cons_succ,List.getD_cons_zero,List.getD_cons_succ,Option.bind_some,Zdd,Zdg,Zdi,Zds,Zdw,Zdy,Zdz,Zea,decide_true,decide_false,List.getElem?_cons_zero,List.length_cons,List.length_nil,if_true,Nat.reduceAdd,Nat.reduceLeDiff,eq_self,and_self,List.length_map,aload,acells,getArr,part,astore,putCells,get_new,set_new,List.all_cons,List.all_nil,cellOk,Bool.and_self,List.drop_zero,List.drop_succ_cons,List.take_succ_cons,List.take_zero,List.take_nil,List.cons_append,List.nil_append,List.set_cons_zero,List.length_map,hb,h3',ii,q1,q2,e,hw,e']

theorem r_levels (g : GramD) (hg : g.Ok) (hT : (g.terms.length : Int) ≤ 256) (H : AHeap) : lim G0.cfg (.func 66) [.agg (eGram g)] H = some (.bool (levelsGo g.terms.length g.levels []), H) := by
  refine lim_flat rfl rfl P_r15_levels (g.levels.length + sizeT g.levels + 1) (fun h => fz_1 (fz_gram g h)) ?_ (fun _ => rfl) H
  obtain ⟨N, hN⟩ : ∃ N, N = g.levels.length + sizeT g.levels + 1 := ⟨_, rfl⟩
  rw [← hN]
  have hmk : amk [.arr 0 5 true [eGram g]] 1 1 [.bool false] (.int .i64 g.terms.length) (.int .i64 g.terms.length) = some (.hsl 1 0 0 g.terms.length none, [.arr 0 5 true [eGram g], .arr 0 1 true (rowB g.terms.length [])]) := by
    have : (0 : Int) ≤ g.terms.length ∧ (g.terms.length : Int) ≤ g.terms.length ∧ (g.terms.length : Int) * ((1 : Nat) + 1) ≤ 70368744177664 := by omega
    rw [amk, if_pos this, ← rowB_nil]; rfl
  obtain ⟨h', e⟩ := r_levels_loop0 g hg N (fun l hl => by have := sizeT_le g.levels l hl; omega) g.levels.length 0 N [] [.arr 0 5 true [eGram g], .arr 0 1 true (rowB g.terms.length [])] (by omega) (by omega) rfl rfl
  rw [List.drop_zero, z0] at e
  rw [R_r15_levels]
  cases q : levelsGo g.terms.length g.levels []
  · rw [q] at e
    simp only [cond_false] at e
    simp only [Zab,Zac,Zae,Zaf,Zag,Zaj,Zak,Zam,Zao,Zat,Zay,Zaz,Zbi,Zbk,Zbn,Zbo,Zbv,Zby,Zcg,Zcr,Zct,Zcu,Zcv,Zcw,Zda,Zdb,Zdc,List.set_cons_zero,List.set_cons_succ,List.getD_cons_zero,List.getD_cons_succ,Option.bind_some,Option.map_some,Zds,Zdw,Zdy,Zea,Zep,List.getElem?_cons_zero,List.length_cons,List.length_nil,if_true,Nat.reduceAdd,Nat.reduceSub,Nat.reduceLeDiff,eq_self,true_and,List.length_cons,List.length_nil,List.replicate_succ,List.replicate_zero,List.cons_append,List.nil_append,aload,acells,getArr,part,List.drop_zero,List.take_succ_cons,List.take_zero,List.cons_append,List.nil_append,List.set_cons_zero,hmk,e,resAll,resVals,resVal,Option.some.injEq,Prod.mk.injEq,true_and,exists_eq']
  · rw [q] at e
    simp only [cond_true] at e
    simp only [Zab,Zac,Zae,Zaf,Zag,Zai,Zaj,Zak,Zap,Zat,Zay,Zaz,Zbi,Zbk,Zbn,Zbo,Zbv,Zby,Zcg,Zcr,Zct,Zcu,Zcv,Zcw,Zda,Zdb,Zdc,List.set_cons_zero,List.set_cons_succ,List.getD_cons_zero,List.getD_cons_succ,Option.bind_some,Option.map_some,Zds,Zdw,Zdy,Zea,Zep,List.getElem?_cons_zero,List.length_cons,List.length_nil,if_true,Nat.reduceAdd,Nat.reduceSub,Nat.reduceLeDiff,eq_self,true_and,List.length_cons,List.length_nil,List.replicate_succ,List.replicate_zero,List.cons_append,List.nil_append,aload,acells,getArr,part,List.drop_zero,List.take_succ_cons,List.take_zero,List.cons_append,List.nil_append,List.set_cons_zero,hmk,e,resAll,resVals,resVal,Option.some.injEq,Prod.mk.injEq,true_and,exists_eq']

theorem aheadOf_succ (g : GramD) (i : Nat) (hi : i < g.rules.length) : aheadOf g (i + 1) = (g.rules[i]).left := by simp [aheadOf, hi]

theorem r_right_loop (g : GramD) (hg : g.Ok) (n : Nat) (h : AHeap) (hb : h[0]? = some (.arr 0 5 true [eGram g])) : ∀ (d i m : Nat), g.rules.length = i + d → d < m →
    loopN (evalCode (lim G0.cfg) n B_r15_Right_0) m ⟨[.junk, .ptr 0 0 0 0, .junk, .int .i64 i, .junk,.junk,.junk,.junk,.junk,.junk,.junk,.junk,.junk,.junk,.junk,.junk,.junk,.junk,.junk,.junk,.junk,.junk,.junk,.junk,.junk,.junk,.junk,.junk,.junk,.junk,.junk,.junk,.junk], h⟩ =
      if rulesErr g (g.rules.drop i) (aheadOf g i) = 0 then some (.exit 0, ⟨[.junk, .ptr 0 0 0 0, .junk,.junk,.junk,.junk,.junk,.junk,.junk,.junk,.junk,.junk,.junk,.junk,.junk,.junk,.junk,.junk,.junk,.junk,.junk,.junk,.junk,.junk,.junk,.junk,.junk,.junk,.junk,.junk,.junk,.junk,.junk], h⟩) else some (.ret, ⟨[.junk,.junk, .int .i64 (rulesErr g (g.rules.drop i) (aheadOf g i)), .junk,.junk,.junk,.junk,.junk,.junk,.junk,.junk,.junk,.junk,.junk,.junk,.junk,.junk,.junk,.junk,.junk,.junk,.junk,.junk,.junk,.junk,.junk,.junk,.junk,.junk,.junk,.junk,.junk,.junk], h⟩) := by
  have hm := hg.rules
  rw [maxLen_eq] at hm
  intro d
  induction d with
  | zero =>
    intro i m h1 h2
    obtain ⟨m, rfl⟩ : ∃ q, m = q + 1 := ⟨m - 1, by omega⟩
    have e1 : g.rules.drop i = [] := List.drop_eq_nil_iff.2 (by omega)
    have h3 : ¬ ((i : Int) < g.rules.length) := by omega
    simp only [loop_e,EB_r15_Right_0,Zab,Zac,Zad,Zag,Zah,Zaj,Zak,Zal,Zas,Zav,Zay,Zbi,Zbk,Zbo,Zbq,Zby,Zcg,Zcu,Zcw,Zda,Zdb,Zdc,List.set_cons_zero,List.set_cons_succ,List.getD_cons_zero,List.getD_cons_succ,Option.bind_some,Zdg,Zds,Zdw,Zdy,decide_false,List.getElem?_cons_zero,List.length_cons,List.length_nil,if_true,Nat.reduceAdd,Nat.reduceLeDiff,eq_self,List.length_map,aload,acells,getArr,part,List.drop_zero,List.drop_succ_cons,List.take_succ_cons,List.take_zero,List.set_cons_zero,List.length_map,hb,h3,e1,rulesErr]
  | succ d ih =>
    intro i m h1 h2
    obtain ⟨m, rfl⟩ : ∃ q, m = q + 1 := ⟨m - 1, by omega⟩
    have h3 : i < g.rules.length := by omega
    have h3' : (i : Int) < g.rules.length := by omega
    have e1 : g.rules.drop i = g.rules[i] :: g.rules.drop (i + 1) := List.drop_eq_getElem_cons h3
    have hw := w64s (n := i) (by omega)
    have hr := r_rule g hg i h3
    by_cases q : ruleErr g g.rules[i] (aheadOf g i) = 0
    · have e := ih (i + 1) m (by omega) (by omega)
      rw [aheadOf_succ g i h3] at e
      have e2 : rulesErr g (g.rules.drop i) (aheadOf g i) = rulesErr g (g.rules.drop (i + 1)) (g.rules[i]).left := by rw [e1]; simp [rulesErr, q]
      rw [e2, ← e]
      simp only [loop_e,EB_r15_Right_0,Zaa,Zab,Zac,Zad,Zae,Zag,Zaj,Zak,Zan,Zar,Zas,Zau,Zay,Zaz,Zbi,Zbk,Zbo,Zbq,Zby,Zcg,Zco,Zcp,Zcu,Zcv,Zcw,Zcy,Zcz,Zda,Zdb,Zdc,List.set_cons_zero,List.set_cons_succ,List.getD_cons_zero,List.getD_cons_succ,Option.bind_some,Zdd,Zdg,Zdl,Zds,Zdw,Zdy,Zdz,decide_true,Bool.not_true,List.getElem?_cons_zero,List.length_cons,List.length_nil,if_true,Nat.reduceAdd,Nat.reduceLeDiff,eq_self,List.length_map,aload,acells,getArr,part,List.drop_zero,List.drop_succ_cons,List.take_succ_cons,List.take_zero,List.take_nil,List.cons_append,List.nil_append,List.set_cons_zero,List.length_map,hb,h3',hr,q,hw]
    · have e2 : rulesErr g (g.rules.drop i) (aheadOf g i) = ruleErr g g.rules[i] (aheadOf g i) := by rw [e1]; simp [rulesErr, q]
      rw [e2, if_neg q]
      simp only [loop_e,EB_r15_Right_0,Zaa,Zab,Zac,Zad,Zae,Zag,Zai,Zaj,Zak,Zam,Zao,Zar,Zaw,Zay,Zaz,Zbi,Zbk,Zbo,Zbq,Zby,Zcg,Zco,Zcp,Zcu,Zcv,Zcw,Zcy,Zcz,Zda,Zdb,Zdc,List.set_cons_zero,List.set_cons_succ,List.getD_cons_zero,List.getD_cons_succ,Option.bind_some,Zdg,Zdl,Zds,Zdw,Zdy,Zdz,decide_true,decide_false,Bool.not_false,List.getElem?_cons_zero,List.length_cons,List.length_nil,if_true,Nat.reduceAdd,Nat.reduceLeDiff,eq_self,List.length_map,aload,acells,getArr,part,List.drop_zero,List.drop_succ_cons,List.take_succ_cons,List.take_zero,List.take_nil,List.cons_append,List.nil_append,List.set_cons_zero,List.length_map,hb,h3',hr,q]

/-- **The reference's check of a grammar.** -/
theorem r_Right (g : GramD) (hg : g.Ok) (H : AHeap) : lim G0.cfg (.func 31) [.agg (eGram g)] H = some (.int .i64 (gramErr g), H) := by
  refine lim_flat rfl rfl P_r15_Right (g.rules.length + 1) (fun h => fz_1 (fz_gram g h)) ?_ (fun _ => rfl) H
  have c1 := r_counts g hg
  have c2 := r_twice g.terms hg.terms
  have c3 := r_twice g.nonterms hg.nonterms
  rw [R_r15_Right]
  unfold gramErr
  cases q1 : countsOk g
  case false =>
    rw [q1] at c1
    simp only [Zab,Zac,Zad,Zai,Zaj,Zak,Zam,Zar,Zay,Zaz,Zbi,Zbk,Zbn,Zbo,Zco,Zcp,Zcr,Zct,Zcu,Zcv,Zcw,Zcy,Zcz,List.set_cons_zero,List.set_cons_succ,List.getD_cons_zero,List.getD_cons_succ,Option.bind_some,Option.map_some,Zdz,Zea,Bool.not_false,List.getElem?_cons_zero,List.length_cons,List.length_nil,if_true,Nat.reduceAdd,Nat.reduceSub,Nat.reduceLeDiff,eq_self,true_and,List.length_cons,List.length_nil,List.replicate_succ,List.replicate_zero,List.cons_append,List.nil_append,aload,acells,getArr,part,List.drop_zero,List.take_succ_cons,List.take_nil,List.cons_append,List.nil_append,List.set_cons_zero,c1,resAll,resVals,resVal,Option.some.injEq,Prod.mk.injEq,true_and,exists_eq']
  case true =>
  rw [q1] at c1
  cases q2 : twiceB g.terms
  case true =>
    rw [q2] at c2
    simp only [Zaa,Zab,Zac,Zad,Zai,Zaj,Zak,Zam,Zar,Zas,Zay,Zaz,Zbd,Zbg,Zbi,Zbj,Zbk,Zbl,Zbn,Zbo,Zby,Zco,Zcp,Zcr,Zct,Zcu,Zcv,Zcw,Zcy,Zcz,List.set_cons_zero,List.set_cons_succ,List.getD_cons_zero,List.getD_cons_succ,Option.bind_some,Option.map_some,Zdw,Zdy,Zdz,Zea,Bool.not_true,List.getElem?_cons_zero,List.length_cons,List.length_nil,if_true,if_false,Nat.reduceAdd,Nat.reduceSub,Nat.reduceLeDiff,eq_self,true_and,List.length_cons,List.length_nil,List.replicate_succ,List.replicate_zero,List.cons_append,List.nil_append,aload,acells,getArr,part,List.drop_zero,List.take_succ_cons,List.take_zero,List.take_nil,List.cons_append,List.nil_append,List.set_cons_zero,c1,c2,resAll,resVals,resVal,Option.some.injEq,Prod.mk.injEq,true_and,exists_eq',Bool.true_eq_false,true_or]
  case false =>
  rw [q2] at c2
  cases q3 : twiceB g.nonterms
  case true =>
    rw [q3] at c3
    simp only [Zaa,Zab,Zac,Zad,Zai,Zaj,Zak,Zam,Zar,Zas,Zay,Zaz,Zbc,Zbh,Zbi,Zbj,Zbk,Zbl,Zbn,Zbo,Zby,Zco,Zcp,Zcr,Zct,Zcu,Zcv,Zcw,Zcy,Zcz,List.set_cons_zero,List.set_cons_succ,List.getD_cons_zero,List.getD_cons_succ,Option.bind_some,Option.map_some,Zdw,Zdy,Zdz,Zea,Bool.not_true,List.getElem?_cons_zero,List.length_cons,List.length_nil,if_true,if_false,Nat.reduceAdd,Nat.reduceSub,Nat.reduceLeDiff,eq_self,true_and,List.length_cons,List.length_nil,List.replicate_succ,List.replicate_zero,List.cons_append,List.nil_append,aload,acells,getArr,part,List.drop_zero,List.drop_succ_cons,List.take_succ_cons,List.take_zero,List.take_nil,List.cons_append,List.nil_append,List.set_cons_zero,c1,c2,c3,resAll,resVals,resVal,Option.some.injEq,Prod.mk.injEq,true_and,exists_eq',Bool.true_eq_false,or_true]
  case false =>
  rw [q3] at c3
  have hne : g.rules ≠ [] := by
    intro e
    simp [countsOk, e] at q1
  have hT : (g.terms.length : Int) ≤ 256 := by
    simp only [countsOk,Bool.and_eq_true,decide_eq_true_eq] at q1
    omega
  have c4 := r_start g hg hne
  cases q4 : startOk g
  case false =>
    rw [q4] at c4
    simp only [Zaa,Zab,Zac,Zad,Zai,Zaj,Zak,Zam,Zar,Zas,Zay,Zaz,Zbc,Zbh,Zbi,Zbj,Zbk,Zbl,Zbn,Zbo,Zby,Zco,Zcp,Zcr,Zct,Zcu,Zcv,Zcw,Zcy,Zcz,List.set_cons_zero,List.set_cons_succ,List.getD_cons_zero,List.getD_cons_succ,Option.bind_some,Option.map_some,Zdw,Zdy,Zdz,Zea,Bool.not_true,Bool.not_false,List.getElem?_cons_zero,List.length_cons,List.length_nil,if_true,if_false,Nat.reduceAdd,Nat.reduceSub,Nat.reduceLeDiff,eq_self,true_and,List.length_cons,List.length_nil,List.replicate_succ,List.replicate_zero,List.cons_append,List.nil_append,aload,acells,getArr,part,List.drop_zero,List.drop_succ_cons,List.take_succ_cons,List.take_zero,List.take_nil,List.cons_append,List.nil_append,List.set_cons_zero,c1,c2,c3,c4,resAll,resVals,resVal,Option.some.injEq,Prod.mk.injEq,true_and,exists_eq',Bool.true_eq_false,Bool.false_eq_true,or_self]
  case true =>
  rw [q4] at c4
  have e := r_right_loop g hg (g.rules.length + 1) [.arr 0 5 true [eGram g]] rfl g.rules.length 0 (g.rules.length + 1) (by omega) (by omega)
  have ea : aheadOf g 0 = 0 := rfl
  rw [List.drop_zero, z0, ea] at e
  by_cases q5 : rulesErr g g.rules 0 = 0
  case neg =>
    rw [if_neg q5] at e
    simp only [Zaa,Zab,Zac,Zad,Zae,Zaf,Zag,Zaj,Zak,Zam,Zao,Zas,Zat,Zay,Zaz,Zbc,Zbh,Zbi,Zbj,Zbk,Zbl,Zbn,Zbo,Zby,Zco,Zcp,Zcr,Zct,Zcu,Zcv,Zcw,Zcy,Zcz,Zda,Zdb,Zdc,List.set_cons_zero,List.set_cons_succ,List.getD_cons_zero,List.getD_cons_succ,Option.bind_some,Option.map_some,Zdw,Zdy,Zdz,Zea,Bool.not_true,List.getElem?_cons_zero,List.length_cons,List.length_nil,if_true,if_false,Nat.reduceAdd,Nat.reduceSub,Nat.reduceLeDiff,eq_self,true_and,not_false_eq_true,List.length_cons,List.length_nil,List.replicate_succ,List.replicate_zero,List.cons_append,List.nil_append,aload,acells,getArr,part,List.drop_zero,List.drop_succ_cons,List.take_succ_cons,List.take_zero,List.take_nil,List.cons_append,List.nil_append,List.set_cons_zero,c1,c2,c3,c4,e,q5,ne_eq,not_false_eq_true,resAll,resVals,resVal,Option.some.injEq,Prod.mk.injEq,true_and,exists_eq',Bool.true_eq_false,Bool.false_eq_true,or_self]
  case pos =>
  rw [if_pos q5] at e
  have c6 := r_levels g hg hT
  cases q6 : levelsGo g.terms.length g.levels []
  case false =>
    rw [q6] at c6
    simp only [Zaa,Zab,Zac,Zad,Zae,Zaf,Zag,Zai,Zaj,Zak,Zam,Zap,Zar,Zas,Zat,Zay,Zaz,Zbc,Zbh,Zbi,Zbj,Zbk,Zbl,Zbn,Zbo,Zbr,Zby,Zco,Zcp,Zcr,Zct,Zcu,Zcv,Zcw,Zcy,Zcz,Zda,Zdb,Zdc,List.set_cons_zero,List.set_cons_succ,List.getD_cons_zero,List.getD_cons_succ,Option.bind_some,Option.map_some,Zdq,Zdw,Zdy,Zdz,Zea,Bool.not_true,Bool.not_false,List.getElem?_cons_zero,List.length_cons,List.length_nil,if_true,if_false,Nat.reduceAdd,Nat.reduceSub,Nat.reduceLeDiff,eq_self,true_and,not_true_eq_false,List.length_cons,List.length_nil,List.replicate_succ,List.replicate_zero,List.cons_append,List.nil_append,aload,acells,getArr,part,List.drop_zero,List.drop_succ_cons,List.take_succ_cons,List.take_zero,List.take_nil,List.cons_append,List.nil_append,List.set_cons_zero,c1,c2,c3,c4,e,q5,c6,ne_eq,resAll,resVals,resVal,Option.some.injEq,Prod.mk.injEq,true_and,exists_eq',Bool.true_eq_false,Bool.false_eq_true,or_self]
  case true =>
    rw [q6] at c6
    simp only [Zaa,Zab,Zac,Zad,Zae,Zaf,Zag,Zai,Zaj,Zak,Zap,Zas,Zat,Zay,Zaz,Zbc,Zbh,Zbi,Zbj,Zbk,Zbl,Zbn,Zbo,Zbr,Zby,Zco,Zcp,Zcr,Zct,Zcu,Zcv,Zcw,Zcy,Zcz,Zda,Zdb,Zdc,List.set_cons_zero,List.set_cons_succ,List.getD_cons_zero,List.getD_cons_succ,Option.bind_some,Option.map_some,Zdq,Zdw,Zdy,Zdz,Zea,Bool.not_true,List.getElem?_cons_zero,List.length_cons,List.length_nil,if_true,if_false,Nat.reduceAdd,Nat.reduceSub,Nat.reduceLeDiff,eq_self,true_and,not_true_eq_false,List.length_cons,List.length_nil,List.replicate_succ,List.replicate_zero,List.cons_append,List.nil_append,aload,acells,getArr,part,List.drop_zero,List.drop_succ_cons,List.take_succ_cons,List.take_zero,List.take_nil,List.cons_append,List.nil_append,List.set_cons_zero,c1,c2,c3,c4,e,q5,c6,ne_eq,resAll,resVals,resVal,Option.some.injEq,Prod.mk.injEq,true_and,exists_eq',Bool.true_eq_false,Bool.false_eq_true,or_self]
end Go.Proofs.Ytkimloceaihplaa.Ai
