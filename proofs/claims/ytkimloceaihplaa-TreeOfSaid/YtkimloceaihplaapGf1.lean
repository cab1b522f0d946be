/- Grammars: the reference's checks, walked. -/
import Derived.Test.YtkimloceaihplaapGr4
namespace Go.Proofs.Ytkimloceaihplaa.Ai
open Go Go.Proofs
set_option linter.unusedVariables false
set_option linter.unusedSimpArgs false
set_option maxRecDepth 10000

theorem f_Is (g : GramD) (hg : g.Ok) (s : Int) (H : AHeap) : lim G0.cfg (.func 81) [.agg (eGram g), .int .i64 s] H = some (.bool (isSym g s), H) := by
  refine lim_flat rfl rfl P_r15_Is 1 (fun h => fz_2 (fz_gram g h) rfl) ?_ (fun _ => rfl) H
  have hn := hg.nonterms
  have ht := hg.terms
  rw [maxLen_eq] at hn ht
  have hw : IntKind.i64.wrap (-(g.nonterms.length : Int)) = -(g.nonterms.length : Int) := w64 (by omega) (by omega)
  rw [R_r15_Is]
  unfold isSym
  by_cases q1 : 0 ≤ s
  case pos =>
    have q3 : ¬ (s < 0) := by omega
    have q4 : -(g.nonterms.length : Int) ≤ s := by omega
    by_cases q2 : s < (g.terms.length : Int)
    · simp only [Zab,Zac,Zai,Zaj,Zak,Zay,Zaz,Zbb,Zbd,Zbf,Zbg,Zbi,Zbj,Zbk,Zbl,Zbn,Zbo,Zbq,Zby,Zcg,Zcr,Zct,Zcu,Zcv,Zcw,List.set_cons_zero,List.set_cons_succ,List.getD_cons_zero,List.getD_cons_succ,Option.bind_some,Option.map_some,Zdg,Zdj,Zds,Zdw,Zdy,Zea,Zep,decide_true,List.getElem?_cons_zero,List.length_cons,List.length_nil,if_true,Nat.reduceAdd,Nat.reduceSub,Nat.reduceLeDiff,eq_self,true_and,List.length_cons,List.length_nil,List.replicate_succ,List.replicate_zero,List.cons_append,List.nil_append,aload,acells,getArr,part,Bool.and_self,List.drop_zero,List.take_succ_cons,List.take_zero,List.cons_append,List.nil_append,List.set_cons_zero,q1,q2,q4,resAll,resVals,resVal,Option.some.injEq,Prod.mk.injEq,true_and,exists_eq']
    · simp only [Zab,Zac,Zai,Zaj,Zak,Zay,Zaz,Zbb,Zbc,Zbe,Zbg,Zbh,Zbi,Zbj,Zbk,Zbl,Zbn,Zbo,Zbq,Zby,Zcg,Zcr,Zct,Zcu,Zcv,Zcw,List.set_cons_zero,List.set_cons_succ,List.getD_cons_zero,List.getD_cons_succ,Option.bind_some,Option.map_some,Zdg,Zdj,Zds,Zdw,Zdy,Zea,Zep,decide_true,decide_false,List.getElem?_cons_zero,List.length_cons,List.length_nil,if_true,Nat.reduceAdd,Nat.reduceSub,Nat.reduceLeDiff,eq_self,true_and,List.length_cons,List.length_nil,List.replicate_succ,List.replicate_zero,List.cons_append,List.nil_append,aload,acells,getArr,part,List.drop_zero,List.take_succ_cons,List.take_zero,List.cons_append,List.nil_append,List.set_cons_zero,q1,q2,q3,q4,resAll,resVals,resVal,Option.some.injEq,Prod.mk.injEq,true_and,Bool.and_true,exists_eq']
  case neg =>
    have q3 : s < 0 := by omega
    have q4 : s < (g.terms.length : Int) := by omega
    by_cases q2 : -(g.nonterms.length : Int) ≤ s
    · simp only [Zab,Zac,Zai,Zaj,Zak,Zay,Zaz,Zbb,Zbc,Zbe,Zbg,Zbh,Zbi,Zbj,Zbk,Zbl,Zbn,Zbo,Zbq,Zbr,Zby,Zcg,Zcr,Zct,Zcu,Zcv,Zcw,List.set_cons_zero,List.set_cons_succ,List.getD_cons_zero,List.getD_cons_succ,Option.bind_some,Option.map_some,Zdg,Zdj,Zdr,Zds,Zdw,Zdy,Zea,Zep,decide_true,decide_false,List.getElem?_cons_zero,List.length_cons,List.length_nil,if_true,Nat.reduceAdd,Nat.reduceSub,Nat.reduceLeDiff,eq_self,true_and,List.length_cons,List.length_nil,List.replicate_succ,List.replicate_zero,List.cons_append,List.nil_append,aload,acells,getArr,part,Bool.and_self,List.drop_zero,List.drop_succ_cons,List.take_succ_cons,List.take_zero,List.cons_append,List.nil_append,List.set_cons_zero,hw,q1,q2,q3,q4,resAll,resVals,resVal,Option.some.injEq,Prod.mk.injEq,true_and,exists_eq']
    · simp only [Zab,Zac,Zai,Zaj,Zak,Zay,Zaz,Zbb,Zbc,Zbe,Zbg,Zbh,Zbi,Zbj,Zbk,Zbl,Zbn,Zbo,Zbq,Zbr,Zby,Zcg,Zcr,Zct,Zcu,Zcv,Zcw,List.set_cons_zero,List.set_cons_succ,List.getD_cons_zero,List.getD_cons_succ,Option.bind_some,Option.map_some,Zdg,Zdj,Zdr,Zds,Zdw,Zdy,Zea,Zep,decide_true,decide_false,List.getElem?_cons_zero,List.length_cons,List.length_nil,if_true,Nat.reduceAdd,Nat.reduceSub,Nat.reduceLeDiff,eq_self,true_and,List.length_cons,List.length_nil,List.replicate_succ,List.replicate_zero,List.cons_append,List.nil_append,aload,acells,getArr,part,List.drop_zero,List.drop_succ_cons,List.take_succ_cons,List.take_zero,List.cons_append,List.nil_append,List.set_cons_zero,hw,q1,q2,q3,q4,resAll,resVals,resVal,Option.some.injEq,Prod.mk.injEq,true_and,Bool.and_false,exists_eq']

theorem r_counts_loop0 (g : GramD) (hg : g.Ok) (n : Nat) (h : AHeap) (hb : h[0]? = some (.arr 0 5 true [eGram g])) : ∀ (d i m : Nat), g.origins.length = i + d → d < m →
    loopN (evalCode (lim G0.cfg) n B_r15_counts_0) m ⟨(.junk :: .ptr 0 0 0 0 :: .junk :: .int .i64 i :: .junk::.junk::.junk::.junk::.junk::.junk::.junk::.junk::.junk::.junk::.junk::.junk::.junk::.junk::.junk::.junk::.junk::.junk::.junk::.junk::.junk::.junk::.junk::.junk::.junk::.junk::.junk::.junk::.junk::.junk::.junk::.junk::.junk::.junk::.junk::.junk::.junk::.junk::.junk::.junk::.junk::.junk::.junk::.junk::.junk::.junk::.junk::.junk::.junk::.junk::.junk::.junk::.junk::.junk::.junk::.junk::.junk::.junk::.junk::.junk::.junk::.junk::.junk::.junk::.junk::.junk::.junk::.junk::.junk::.junk::.junk::.junk::.junk::.junk::.junk::.junk::.junk::.junk::.junk::.junk::.junk::.junk::.junk::.junk::.junk::.junk::.junk::.junk::.junk::.junk :: []), h⟩ =
      bif (g.origins.drop i).all (fun o => decide (0 ≤ o) && decide (o ≤ 5)) then some (.exit 0, ⟨(.junk :: .ptr 0 0 0 0 :: .junk::.junk::.junk::.junk::.junk::.junk::.junk::.junk::.junk::.junk::.junk::.junk::.junk::.junk::.junk::.junk::.junk::.junk::.junk::.junk::.junk::.junk::.junk::.junk::.junk::.junk::.junk::.junk::.junk::.junk::.junk::.junk::.junk::.junk::.junk::.junk::.junk::.junk::.junk::.junk::.junk::.junk::.junk::.junk::.junk::.junk::.junk::.junk::.junk::.junk::.junk::.junk::.junk::.junk::.junk::.junk::.junk::.junk::.junk::.junk::.junk::.junk::.junk::.junk::.junk::.junk::.junk::.junk::.junk::.junk::.junk::.junk::.junk::.junk::.junk::.junk::.junk::.junk::.junk::.junk::.junk::.junk::.junk::.junk::.junk::.junk::.junk::.junk::.junk::.junk::.junk::.junk :: []), h⟩) else some (.ret, ⟨(.junk::.junk :: .bool true::.junk::.junk::.junk::.junk::.junk::.junk::.junk::.junk::.junk::.junk::.junk::.junk::.junk::.junk::.junk::.junk::.junk::.junk::.junk::.junk::.junk::.junk::.junk::.junk::.junk::.junk::.junk::.junk::.junk::.junk::.junk::.junk::.junk::.junk::.junk::.junk::.junk::.junk::.junk::.junk::.junk::.junk::.junk::.junk::.junk::.junk::.junk::.junk::.junk::.junk::.junk::.junk::.junk::.junk::.junk::.junk::.junk::.junk::.junk::.junk::.junk::.junk::.junk::.junk::.junk::.junk::.junk::.junk::.junk::.junk::.junk::.junk::.junk::.junk::.junk::.junk::.junk::.junk::.junk::.junk::.junk::.junk::.junk::.junk::.junk::.junk::.junk::.junk::.junk::.junk::.junk :: []), h⟩) := by
  have hm := hg.origins
  rw [maxLen_eq] at hm
  intro d
  induction d with
  | zero =>
    intro i m h1 h2
    obtain ⟨m, rfl⟩ : ∃ q, m = q + 1 := ⟨m - 1, by omega⟩
    have e1 : g.origins.drop i = [] := List.drop_eq_nil_iff.2 (by omega)
    have h3 : ¬ ((i : Int) < g.origins.length) := by omega
    simp only [loop_e,EB_r15_counts_0,Zab,Zac,Zad,Zag,Zah,Zaj,Zak,Zal,Zas,Zav,Zay,Zbi,Zbk,Zbo,Zbq,Zby,Zcg,Zcu,Zcw,Zda,Zdb,Zdc,List.set_cons_zero,List.set_cons_succ,List.getD_cons_zero,List.getD_cons_succ,Option.bind_some,Zdg,Zds,Zdw,Zdy,Zeo,decide_false,List.getElem?_cons_zero,List.length_cons,List.length_nil,if_true,Nat.reduceAdd,Nat.reduceLeDiff,eq_self,cond_true,aload,acells,getArr,part,List.all_nil,List.drop_zero,List.drop_succ_cons,List.take_succ_cons,List.take_zero,List.set_cons_zero,hb,h3,e1]
  | succ d ih =>
    intro i m h1 h2
    obtain ⟨m, rfl⟩ : ∃ q, m = q + 1 := ⟨m - 1, by omega⟩
    have h3 : i < g.origins.length := by omega
    have h3' : (i : Int) < g.origins.length := by omega
    have e1 : g.origins.drop i = g.origins[i] :: g.origins.drop (i + 1) := List.drop_eq_getElem_cons h3
    have hw := w64s (n := i) (by omega)
    have := ih (i + 1) m (by omega) (by omega)
    by_cases q1 : g.origins[i] < 0
    case pos =>
      have q1' : ¬ (0 ≤ g.origins[i]) := by omega
      simp only [loop_e,EB_r15_counts_0,Zaa,Zab,Zac,Zad,Zae,Zag,Zai,Zaj,Zak,Zam,Zao,Zar,Zaw,Zay,Zbd,Zbg,Zbi,Zbj,Zbk,Zbl,Zbo,Zbq,Zby,Zcb,Zcg,Zcu,Zcv,Zcw,Zda,Zdb,Zdc,List.set_cons_zero,List.set_cons_succ,List.getD_cons_zero,List.getD_cons_succ,Option.bind_some,Zdg,Zds,Zdw,Zdy,Zeo,decide_true,decide_false,List.getElem?_cons_zero,List.length_cons,List.length_nil,if_true,Nat.reduceAdd,Nat.reduceLeDiff,eq_self,cond_false,aload,acells,getArr,part,eI,List.all_cons,List.drop_zero,List.drop_succ_cons,List.take_succ_cons,List.take_zero,List.take_nil,List.set_cons_zero,hb,h3',ix_eIs _ _ g.origins _ i h3,e1,q1,q1',Bool.false_and]
    case neg =>
    have q1' : 0 ≤ g.origins[i] := by omega
    by_cases q2 : 5 < g.origins[i]
    case pos =>
      have q2' : ¬ (g.origins[i] ≤ 5) := by omega
      simp only [loop_e,EB_r15_counts_0,Zaa,Zab,Zac,Zad,Zae,Zag,Zai,Zaj,Zak,Zam,Zao,Zar,Zaw,Zay,Zbc,Zbh,Zbi,Zbj,Zbk,Zbl,Zbo,Zbq,Zby,Zcb,Zcg,Zcu,Zcv,Zcw,Zda,Zdb,Zdc,List.set_cons_zero,List.set_cons_succ,List.getD_cons_zero,List.getD_cons_succ,Option.bind_some,Zdg,Zdi,Zds,Zdw,Zdy,Zeo,decide_true,decide_false,List.getElem?_cons_zero,List.length_cons,List.length_nil,if_true,Nat.reduceAdd,Nat.reduceLeDiff,eq_self,cond_false,aload,acells,getArr,part,eI,List.all_cons,List.drop_zero,List.drop_succ_cons,List.take_succ_cons,List.take_zero,List.take_nil,List.set_cons_zero,hb,h3',ix_eIs _ _ g.origins _ i h3,e1,q1,q1',q2,q2',Bool.false_and,Bool.and_false]
    case neg =>
      have q2' : g.origins[i] ≤ 5 := by omega
      simp only [loop_e,EB_r15_counts_0,Zaa,Zab,Zac,Zad,Zae,Zag,Zaj,Zak,Zan,Zar,Zas,Zau,Zay,Zbc,Zbh,Zbi,Zbj,Zbk,Zbl,Zbo,Zbq,Zby,Zcb,Zcg,Zcu,Zcv,Zcw,Zda,Zdb,Zdc,List.set_cons_zero,List.set_cons_succ,List.getD_cons_zero,List.getD_cons_succ,Option.bind_some,Zdd,Zdg,Zdi,Zds,Zdw,Zdy,Zeo,decide_true,decide_false,List.getElem?_cons_zero,List.length_cons,List.length_nil,if_true,Nat.reduceAdd,Nat.reduceLeDiff,eq_self,aload,acells,getArr,part,eI,List.all_cons,Bool.and_self,List.drop_zero,List.drop_succ_cons,List.take_succ_cons,List.take_zero,List.take_nil,List.set_cons_zero,hb,h3',ix_eIs _ _ g.origins _ i h3,e1,q1,q1',q2,q2',hw,this,Bool.true_and]

theorem r_counts_loop1 (g : GramD) (hg : g.Ok) (n : Nat) (h : AHeap) (hb : h[0]? = some (.arr 0 5 true [eGram g])) : ∀ (d i m : Nat) (w : Int), g.rules.length = i + d → d < m →
    loopN (evalCode (lim G0.cfg) n B_r15_counts_1) m ⟨(.junk :: .ptr 0 0 0 0 :: .junk::.junk :: .int .i64 w :: .int .i64 i :: .junk::.junk::.junk::.junk::.junk::.junk::.junk::.junk::.junk::.junk::.junk::.junk::.junk::.junk::.junk::.junk::.junk::.junk::.junk::.junk::.junk::.junk::.junk::.junk::.junk::.junk::.junk::.junk::.junk::.junk::.junk::.junk::.junk::.junk::.junk::.junk::.junk::.junk::.junk::.junk::.junk::.junk::.junk::.junk::.junk::.junk::.junk::.junk::.junk::.junk::.junk::.junk::.junk::.junk::.junk::.junk::.junk::.junk::.junk::.junk::.junk::.junk::.junk::.junk::.junk::.junk::.junk::.junk::.junk::.junk::.junk::.junk::.junk::.junk::.junk::.junk::.junk::.junk::.junk::.junk::.junk::.junk::.junk::.junk::.junk::.junk::.junk::.junk :: []), h⟩ =
      some (.exit 2, ⟨(.junk :: .ptr 0 0 0 0 :: .junk::.junk :: .int .i64 (wsum (g.rules.drop i) w) :: .junk::.junk::.junk::.junk::.junk::.junk::.junk::.junk::.junk::.junk::.junk::.junk::.junk::.junk::.junk::.junk::.junk::.junk::.junk::.junk::.junk::.junk::.junk::.junk::.junk::.junk::.junk::.junk::.junk::.junk::.junk::.junk::.junk::.junk::.junk::.junk::.junk::.junk::.junk::.junk::.junk::.junk::.junk::.junk::.junk::.junk::.junk::.junk::.junk::.junk::.junk::.junk::.junk::.junk::.junk::.junk::.junk::.junk::.junk::.junk::.junk::.junk::.junk::.junk::.junk::.junk::.junk::.junk::.junk::.junk::.junk::.junk::.junk::.junk::.junk::.junk::.junk::.junk::.junk::.junk::.junk::.junk::.junk::.junk::.junk::.junk::.junk::.junk::.junk :: []), h⟩) := by
  have hm := hg.rules
  rw [maxLen_eq] at hm
  intro d
  induction d with
  | zero =>
    intro i m w h1 h2
    obtain ⟨m, rfl⟩ : ∃ q, m = q + 1 := ⟨m - 1, by omega⟩
    have e1 : g.rules.drop i = [] := List.drop_eq_nil_iff.2 (by omega)
    have h3 : ¬ ((i : Int) < g.rules.length) := by omega
    simp only [loop_e,EB_r15_counts_1,Zab,Zac,Zad,Zag,Zah,Zaj,Zak,Zal,Zas,Zav,Zay,Zbi,Zbk,Zbo,Zbq,Zby,Zcg,Zcu,Zcw,Zda,Zdb,Zdc,List.set_cons_zero,List.set_cons_succ,List.getD_cons_zero,List.getD_cons_succ,Option.bind_some,Zdg,Zds,Zdw,Zdy,decide_false,List.getElem?_cons_zero,List.length_cons,List.length_nil,if_true,Nat.reduceAdd,Nat.reduceLeDiff,eq_self,List.length_map,aload,acells,getArr,part,List.drop_zero,List.drop_succ_cons,List.take_succ_cons,List.take_zero,List.set_cons_zero,List.length_map,hb,h3,e1,wsum]
  | succ d ih =>
    intro i m w h1 h2
    obtain ⟨m, rfl⟩ : ∃ q, m = q + 1 := ⟨m - 1, by omega⟩
    have h3 : i < g.rules.length := by omega
    have h3' : (i : Int) < g.rules.length := by omega
    have e1 : g.rules.drop i = g.rules[i] :: g.rules.drop (i + 1) := List.drop_eq_getElem_cons h3
    have hw := w64s (n := i) (by omega)
    simp only [loop_e,EB_r15_counts_1,Zaa,Zab,Zac,Zad,Zae,Zag,Zaj,Zak,Zan,Zar,Zau,Zay,Zbi,Zbk,Zbo,Zbq,Zby,Zcb,Zcg,Zcu,Zcv,Zcw,Zda,Zdb,Zdc,List.set_cons_zero,List.set_cons_succ,List.getD_cons_zero,List.getD_cons_succ,Option.bind_some,Zdd,Zdg,Zds,Zdw,Zdx,Zdy,Zeo,decide_true,List.getElem?_cons_zero,List.length_cons,List.length_nil,if_true,Nat.reduceAdd,Nat.reduceLeDiff,eq_self,List.length_map,aload,acells,getArr,part,List.drop_zero,List.drop_succ_cons,List.take_succ_cons,List.take_zero,List.set_cons_zero,List.length_map,hb,h3',ix_map eRule _ 5 _ g.rules _ i h3 rfl,e1,wsum,hw,ih (i + 1) m _ (by omega) (by omega)]

theorem r_counts (g : GramD) (hg : g.Ok) (H : AHeap) : lim G0.cfg (.func 62) [.agg (eGram g)] H = some (.bool (!countsOk g), H) := by
  refine lim_flat rfl rfl P_r15_counts (g.rules.length + g.origins.length + 1) (fun h => fz_1 (fz_gram g h)) ?_ (fun _ => rfl) H
  obtain ⟨N, hN⟩ : ∃ N, N = g.rules.length + g.origins.length + 1 := ⟨_, rfl⟩
  rw [← hN]
  have e := r_counts_loop0 g hg N [.arr 0 5 true [eGram g]] rfl g.origins.length 0 N (by omega) (by omega)
  rw [List.drop_zero, z0] at e
  have e2 := r_counts_loop1 g hg N [.arr 0 5 true [eGram g]] rfl g.rules.length 0 N 0 (by omega) (by omega)
  rw [List.drop_zero, z0] at e2
  rw [R_r15_counts]
  unfold countsOk
  generalize hall : (g.origins.all fun o => decide (0 ≤ o) && decide (o ≤ 5)) = ab at e
  by_cases c1 : (g.terms.length : Int) < 2
  case pos =>
    have d1 : ¬ ((2 : Int) ≤ g.terms.length) := by omega
    simp only [Zab,Zac,Zad,Zai,Zaj,Zak,Zam,Zar,Zay,Zaz,Zbd,Zbg,Zbi,Zbj,Zbk,Zbl,Zbn,Zbo,Zbq,Zby,Zcg,Zcr,Zct,Zcu,Zcv,Zcw,List.set_cons_zero,List.set_cons_succ,List.getD_cons_zero,List.getD_cons_succ,Option.bind_some,Option.map_some,Zdg,Zds,Zdw,Zdy,Zea,Zep,decide_true,decide_false,Bool.not_false,List.getElem?_cons_zero,List.length_cons,List.length_nil,if_true,Nat.reduceAdd,Nat.reduceSub,Nat.reduceLeDiff,eq_self,true_and,List.length_cons,List.length_nil,List.replicate_succ,List.replicate_zero,List.cons_append,List.nil_append,aload,acells,getArr,part,List.drop_zero,List.take_succ_cons,List.take_zero,List.cons_append,List.nil_append,List.set_cons_zero,c1,d1,resAll,resVals,resVal,Option.some.injEq,Prod.mk.injEq,true_and,Bool.false_and,exists_eq']
  case neg =>
  have d1 : (2 : Int) ≤ g.terms.length := by omega
  by_cases c2 : (256 : Int) < g.terms.length
  case pos =>
    have d2 : ¬ ((g.terms.length : Int) ≤ 256) := by omega
    simp only [Zab,Zac,Zad,Zai,Zaj,Zak,Zam,Zar,Zay,Zaz,Zbc,Zbd,Zbg,Zbh,Zbi,Zbj,Zbk,Zbl,Zbn,Zbo,Zbq,Zby,Zcg,Zcr,Zct,Zcu,Zcv,Zcw,List.set_cons_zero,List.set_cons_succ,List.getD_cons_zero,List.getD_cons_succ,Option.bind_some,Option.map_some,Zdg,Zdi,Zds,Zdw,Zdy,Zea,Zep,decide_true,decide_false,Bool.not_false,List.getElem?_cons_zero,List.length_cons,List.length_nil,if_true,Nat.reduceAdd,Nat.reduceSub,Nat.reduceLeDiff,eq_self,true_and,List.length_cons,List.length_nil,List.replicate_succ,List.replicate_zero,List.cons_append,List.nil_append,aload,acells,getArr,part,List.drop_zero,List.take_succ_cons,List.take_zero,List.cons_append,List.nil_append,List.set_cons_zero,c1,d1,c2,d2,resAll,resVals,resVal,Option.some.injEq,Prod.mk.injEq,true_and,Bool.false_and,Bool.and_false,exists_eq']
  case neg =>
  have d2 : (g.terms.length : Int) ≤ 256 := by omega
  by_cases c3 : (g.nonterms.length : Int) < 1
  case pos =>
    have d3 : ¬ ((1 : Int) ≤ g.nonterms.length) := by omega
    simp only [Zab,Zac,Zad,Zai,Zaj,Zak,Zam,Zar,Zay,Zaz,Zbc,Zbd,Zbg,Zbh,Zbi,Zbj,Zbk,Zbl,Zbn,Zbo,Zbq,Zby,Zcg,Zcr,Zct,Zcu,Zcv,Zcw,List.set_cons_zero,List.set_cons_succ,List.getD_cons_zero,List.getD_cons_succ,Option.bind_some,Option.map_some,Zdg,Zdi,Zds,Zdw,Zdy,Zea,Zep,decide_true,decide_false,Bool.not_false,List.getElem?_cons_zero,List.length_cons,List.length_nil,if_true,Nat.reduceAdd,Nat.reduceSub,Nat.reduceLeDiff,eq_self,true_and,List.length_cons,List.length_nil,List.replicate_succ,List.replicate_zero,List.cons_append,List.nil_append,aload,acells,getArr,part,Bool.and_self,List.drop_zero,List.drop_succ_cons,List.take_succ_cons,List.take_zero,List.cons_append,List.nil_append,List.set_cons_zero,c1,d1,c2,d2,c3,d3,resAll,resVals,resVal,Option.some.injEq,Prod.mk.injEq,true_and,Bool.false_and,Bool.and_false,exists_eq']
  case neg =>
  have d3 : (1 : Int) ≤ g.nonterms.length := by omega
  by_cases c4 : (512 : Int) < g.nonterms.length
  case pos =>
    have d4 : ¬ ((g.nonterms.length : Int) ≤ 512) := by omega
    simp only [Zab,Zac,Zad,Zai,Zaj,Zak,Zam,Zar,Zay,Zaz,Zbc,Zbd,Zbg,Zbh,Zbi,Zbj,Zbk,Zbl,Zbn,Zbo,Zbq,Zby,Zcg,Zcr,Zct,Zcu,Zcv,Zcw,List.set_cons_zero,List.set_cons_succ,List.getD_cons_zero,List.getD_cons_succ,Option.bind_some,Option.map_some,Zdg,Zdi,Zds,Zdw,Zdy,Zea,Zep,decide_true,decide_false,Bool.not_false,List.getElem?_cons_zero,List.length_cons,List.length_nil,if_true,Nat.reduceAdd,Nat.reduceSub,Nat.reduceLeDiff,eq_self,true_and,List.length_cons,List.length_nil,List.replicate_succ,List.replicate_zero,List.cons_append,List.nil_append,aload,acells,getArr,part,Bool.and_self,List.drop_zero,List.drop_succ_cons,List.take_succ_cons,List.take_zero,List.cons_append,List.nil_append,List.set_cons_zero,c1,d1,c2,d2,c3,d3,c4,d4,resAll,resVals,resVal,Option.some.injEq,Prod.mk.injEq,true_and,Bool.false_and,Bool.and_false,exists_eq']
  case neg =>
  have d4 : (g.nonterms.length : Int) ≤ 512 := by omega
  by_cases c5 : (g.origins.length : Int) = g.nonterms.length
  case neg =>
    simp only [Zab,Zac,Zad,Zai,Zaj,Zak,Zam,Zar,Zay,Zaz,Zbc,Zbh,Zbi,Zbj,Zbk,Zbl,Zbn,Zbo,Zbq,Zby,Zcg,Zcr,Zct,Zcu,Zcv,Zcw,List.set_cons_zero,List.set_cons_succ,List.getD_cons_zero,List.getD_cons_succ,Option.bind_some,Option.map_some,Zdg,Zdi,Zdl,Zds,Zdw,Zdy,Zea,Zeo,Zep,decide_true,decide_false,Bool.not_false,List.getElem?_cons_zero,List.length_cons,List.length_nil,if_true,Nat.reduceAdd,Nat.reduceSub,Nat.reduceLeDiff,eq_self,true_and,List.length_cons,List.length_nil,List.replicate_succ,List.replicate_zero,List.cons_append,List.nil_append,aload,acells,getArr,part,Bool.and_self,List.drop_zero,List.drop_succ_cons,List.take_succ_cons,List.take_zero,List.cons_append,List.nil_append,List.set_cons_zero,c1,d1,c2,d2,c3,d3,c4,d4,c5,resAll,resVals,resVal,Option.some.injEq,Prod.mk.injEq,true_and,Bool.false_and,Bool.and_false,exists_eq']
  case pos =>
  cases ab
  case false =>
    simp only [Zaa,Zab,Zac,Zad,Zae,Zaf,Zag,Zaj,Zak,Zam,Zao,Zas,Zat,Zay,Zaz,Zbc,Zbh,Zbi,Zbj,Zbk,Zbl,Zbn,Zbo,Zbq,Zby,Zcg,Zcr,Zct,Zcu,Zcv,Zcw,Zda,Zdb,Zdc,List.set_cons_zero,List.set_cons_succ,List.getD_cons_zero,List.getD_cons_succ,Option.bind_some,Option.map_some,Zdg,Zdi,Zdl,Zds,Zdw,Zdy,Zea,Zeo,Zep,decide_true,decide_false,Bool.not_true,Bool.not_false,List.getElem?_cons_zero,List.length_cons,List.length_nil,if_true,Nat.reduceAdd,Nat.reduceSub,Nat.reduceLeDiff,eq_self,true_and,cond_false,List.length_cons,List.length_nil,List.replicate_succ,List.replicate_zero,List.cons_append,List.nil_append,aload,acells,getArr,part,Bool.and_self,List.drop_zero,List.drop_succ_cons,List.take_succ_cons,List.take_zero,List.cons_append,List.nil_append,List.set_cons_zero,c1,d1,c2,d2,c3,d3,c4,d4,c5,e,resAll,resVals,resVal,Option.some.injEq,Prod.mk.injEq,true_and,Bool.false_and,Bool.and_false,exists_eq']
  case true =>
  by_cases c7 : (g.rules.length : Int) < 1
  case pos =>
    have d7 : ¬ ((1 : Int) ≤ g.rules.length) := by omega
    simp only [Zaa,Zab,Zac,Zad,Zae,Zaf,Zag,Zai,Zaj,Zak,Zap,Zas,Zat,Zay,Zaz,Zbc,Zbd,Zbg,Zbh,Zbi,Zbj,Zbk,Zbl,Zbn,Zbo,Zbq,Zby,Zcg,Zcr,Zct,Zcu,Zcv,Zcw,Zda,Zdb,Zdc,List.set_cons_zero,List.set_cons_succ,List.getD_cons_zero,List.getD_cons_succ,Option.bind_some,Option.map_some,Zdg,Zdi,Zdl,Zds,Zdw,Zdy,Zea,Zeo,Zep,decide_true,decide_false,Bool.not_true,Bool.not_false,List.getElem?_cons_zero,List.length_cons,List.length_nil,if_true,Nat.reduceAdd,Nat.reduceSub,Nat.reduceLeDiff,eq_self,true_and,cond_true,List.length_map,List.length_cons,List.length_nil,List.replicate_succ,List.replicate_zero,List.cons_append,List.nil_append,aload,acells,getArr,part,Bool.and_self,List.drop_zero,List.drop_succ_cons,List.take_succ_cons,List.take_zero,List.cons_append,List.nil_append,List.set_cons_zero,List.length_map,c1,d1,c2,d2,c3,d3,c4,d4,c5,e,e2,c7,d7,resAll,resVals,resVal,Option.some.injEq,Prod.mk.injEq,true_and,Bool.false_and,Bool.and_false,exists_eq']
  case neg =>
  have d7 : (1 : Int) ≤ g.rules.length := by omega
  by_cases c8 : (1024 : Int) < g.rules.length
  case pos =>
    have d8 : ¬ ((g.rules.length : Int) ≤ 1024) := by omega
    simp only [Zaa,Zab,Zac,Zad,Zae,Zaf,Zag,Zai,Zaj,Zak,Zap,Zas,Zat,Zay,Zaz,Zbc,Zbd,Zbg,Zbh,Zbi,Zbj,Zbk,Zbl,Zbn,Zbo,Zbq,Zby,Zcg,Zcr,Zct,Zcu,Zcv,Zcw,Zda,Zdb,Zdc,List.set_cons_zero,List.set_cons_succ,List.getD_cons_zero,List.getD_cons_succ,Option.bind_some,Option.map_some,Zdg,Zdi,Zdl,Zds,Zdw,Zdy,Zea,Zeo,Zep,decide_true,decide_false,Bool.not_true,Bool.not_false,List.getElem?_cons_zero,List.length_cons,List.length_nil,if_true,Nat.reduceAdd,Nat.reduceSub,Nat.reduceLeDiff,eq_self,true_and,cond_true,List.length_map,List.length_cons,List.length_nil,List.replicate_succ,List.replicate_zero,List.cons_append,List.nil_append,aload,acells,getArr,part,Bool.and_self,List.drop_zero,List.drop_succ_cons,List.take_succ_cons,List.take_zero,List.cons_append,List.nil_append,List.set_cons_zero,List.length_map,c1,d1,c2,d2,c3,d3,c4,d4,c5,e,e2,c7,d7,c8,d8,resAll,resVals,resVal,Option.some.injEq,Prod.mk.injEq,true_and,Bool.false_and,Bool.and_false,exists_eq']
  case neg =>
  have d8 : (g.rules.length : Int) ≤ 1024 := by omega
  by_cases c9 : (32 : Int) < g.levels.length
  case pos =>
    have d9 : ¬ ((g.levels.length : Int) ≤ 32) := by omega
    simp only [Zaa,Zab,Zac,Zad,Zae,Zaf,Zag,Zai,Zaj,Zak,Zap,Zas,Zat,Zay,Zaz,Zbc,Zbd,Zbg,Zbh,Zbi,Zbj,Zbk,Zbl,Zbn,Zbo,Zbq,Zby,Zcg,Zcr,Zct,Zcu,Zcv,Zcw,Zda,Zdb,Zdc,List.set_cons_zero,List.set_cons_succ,List.getD_cons_zero,List.getD_cons_succ,Option.bind_some,Option.map_some,Zdg,Zdi,Zdl,Zds,Zdw,Zdy,Zea,Zeo,Zep,decide_true,decide_false,Bool.not_true,Bool.not_false,List.getElem?_cons_zero,List.length_cons,List.length_nil,if_true,Nat.reduceAdd,Nat.reduceSub,Nat.reduceLeDiff,eq_self,true_and,cond_true,List.length_map,List.length_cons,List.length_nil,List.replicate_succ,List.replicate_zero,List.cons_append,List.nil_append,aload,acells,getArr,part,Bool.and_self,List.drop_zero,List.drop_succ_cons,List.take_succ_cons,List.take_zero,List.take_nil,List.cons_append,List.nil_append,List.set_cons_zero,List.length_map,c1,d1,c2,d2,c3,d3,c4,d4,c5,e,e2,c7,d7,c8,d8,c9,d9,resAll,resVals,resVal,Option.some.injEq,Prod.mk.injEq,true_and,Bool.false_and,Bool.and_false,exists_eq']
  case neg =>
  have d9 : (g.levels.length : Int) ≤ 32 := by omega
  by_cases c10 : 8192 < wsum g.rules 0
  case pos =>
    have d10 : ¬ (wsum g.rules 0 ≤ 8192) := by omega
    simp only [Zaa,Zab,Zac,Zad,Zae,Zaf,Zag,Zai,Zaj,Zak,Zap,Zas,Zat,Zay,Zaz,Zbc,Zbh,Zbi,Zbj,Zbk,Zbl,Zbn,Zbo,Zbq,Zby,Zcg,Zcr,Zct,Zcu,Zcv,Zcw,Zda,Zdb,Zdc,List.set_cons_zero,List.set_cons_succ,List.getD_cons_zero,List.getD_cons_succ,Option.bind_some,Option.map_some,Zdg,Zdi,Zdl,Zds,Zdw,Zdy,Zea,Zeo,Zep,decide_true,decide_false,Bool.not_true,Bool.not_false,List.getElem?_cons_zero,List.length_cons,List.length_nil,if_true,Nat.reduceAdd,Nat.reduceSub,Nat.reduceLeDiff,eq_self,true_and,cond_true,List.length_map,List.length_cons,List.length_nil,List.replicate_succ,List.replicate_zero,List.cons_append,List.nil_append,aload,acells,getArr,part,Bool.and_self,List.drop_zero,List.drop_succ_cons,List.take_succ_cons,List.take_zero,List.take_nil,List.cons_append,List.nil_append,List.set_cons_zero,List.length_map,c1,d1,c2,d2,c3,d3,c4,d4,c5,e,e2,c7,d7,c8,d8,c9,d9,c10,d10,resAll,resVals,resVal,Option.some.injEq,Prod.mk.injEq,true_and,Bool.and_false,exists_eq']
  case neg =>
  have d10 : wsum g.rules 0 ≤ 8192 := by omega
  simp only [Zaa,Zab,Zac,Zad,Zae,Zaf,Zag,Zai,Zaj,Zak,Zap,Zas,Zat,Zay,Zaz,Zbc,Zbh,Zbi,Zbj,Zbk,Zbl,Zbn,Zbo,Zbq,Zby,Zcg,Zcr,Zct,Zcu,Zcv,Zcw,Zda,Zdb,Zdc,List.set_cons_zero,List.set_cons_succ,List.getD_cons_zero,List.getD_cons_succ,Option.bind_some,Option.map_some,Zdg,Zdi,Zdl,Zds,Zdw,Zdy,Zea,Zeo,Zep,decide_true,decide_false,Bool.not_true,List.getElem?_cons_zero,List.length_cons,List.length_nil,if_true,Nat.reduceAdd,Nat.reduceSub,Nat.reduceLeDiff,eq_self,true_and,cond_true,List.length_map,List.length_cons,List.length_nil,List.replicate_succ,List.replicate_zero,List.cons_append,List.nil_append,aload,acells,getArr,part,Bool.and_self,List.drop_zero,List.drop_succ_cons,List.take_succ_cons,List.take_zero,List.take_nil,List.cons_append,List.nil_append,List.set_cons_zero,List.length_map,c1,d1,c2,d2,c3,d3,c4,d4,c5,e,e2,c7,d7,c8,d8,c9,d9,c10,d10,resAll,resVals,resVal,Option.some.injEq,Prod.mk.injEq,true_and,exists_eq']

theorem r_twice_loop1 (l : List Str) (hm : l.length ≤ maxLen) (n : Nat) (i : Nat) (hi : i < l.length) : ∀ (d k m : Nat), i = k + d → d < m →
    loopN (evalCode (lim G0.cfg) n B_r15_twice_1) m ⟨[.vsl false (eSs l), .junk,.junk, .int .i64 i, .int .i64 k, .junk,.junk,.junk,.junk,.junk,.junk,.junk,.junk,.junk,.junk,.junk,.junk,.junk,.junk,.junk,.junk,.junk,.junk,.junk,.junk], []⟩ =
      bif decide (l[i] ∈ (l.take i).drop k) then some (.ret, ⟨[.junk,.junk, .bool true, .junk,.junk,.junk,.junk,.junk,.junk,.junk,.junk,.junk,.junk,.junk,.junk,.junk,.junk,.junk,.junk,.junk,.junk,.junk,.junk,.junk,.junk], []⟩) else some (.exit 2, ⟨[.vsl false (eSs l), .junk,.junk, .int .i64 i, .junk,.junk,.junk,.junk,.junk,.junk,.junk,.junk,.junk,.junk,.junk,.junk,.junk,.junk,.junk,.junk,.junk,.junk,.junk,.junk,.junk], []⟩) := by
  rw [maxLen_eq] at hm
  intro d
  induction d with
  | zero =>
    intro k m h1 h2
    obtain ⟨m, rfl⟩ : ∃ q, m = q + 1 := ⟨m - 1, by omega⟩
    have e1 : (l.take i).drop k = [] := List.drop_eq_nil_iff.2 (by simp; omega)
    have h3 : ¬ ((k : Int) < (i : Int)) := by omega
    simp only [loop_e,EB_r15_twice_1,Zab,Zac,Zad,Zag,Zah,Zaj,Zak,Zal,Zas,Zav,Zay,Zbi,Zbk,Zbq,Zcu,Zcw,Zda,Zdb,Zdc,List.set_cons_zero,List.set_cons_succ,List.getD_cons_zero,List.getD_cons_succ,Zdg,decide_false,eq_self,cond_false,h3,e1,List.not_mem_nil]
  | succ d ih =>
    intro k m h1 h2
    obtain ⟨m, rfl⟩ : ∃ q, m = q + 1 := ⟨m - 1, by omega⟩
    have h3 : (k : Int) < (i : Int) := by omega
    have hk : k < l.length := by omega
    have e1 : (l.take i).drop k = l[k] :: (l.take i).drop (k + 1) := by
      rw [List.drop_eq_getElem_cons (by simp; omega)]; simp
    have hw := w64s (n := k) (by omega)
    have := ih (k + 1) m (by omega) (by omega)
    rw [e1]
    by_cases q : l[k] = l[i]
    · have q2 : decide (l[i] ∈ l[k] :: (l.take i).drop (k + 1)) = true := by simp [q]
      rw [q2]
      simp only [loop_e,EB_r15_twice_1,Zaa,Zab,Zac,Zad,Zae,Zag,Zai,Zaj,Zak,Zam,Zao,Zar,Zaw,Zay,Zbi,Zbk,Zbo,Zbq,Zcb,Zcu,Zcv,Zcw,Zda,Zdb,Zdc,List.set_cons_zero,List.set_cons_succ,List.getD_cons_zero,List.getD_cons_succ,Zdg,Zdm,Zen,decide_true,eq_self,cond_true,ix_eSs _ _ l _ i hi,ix_eSs _ _ l _ k hk,h3,q]
    · have q2 : decide (l[i] ∈ l[k] :: (l.take i).drop (k + 1)) = decide (l[i] ∈ (l.take i).drop (k + 1)) := by
        have q' : ¬ l[i] = l[k] := fun e => q e.symm
        simp [q']
      rw [q2]
      simp only [loop_e,EB_r15_twice_1,Zaa,Zab,Zac,Zad,Zae,Zag,Zaj,Zak,Zan,Zar,Zas,Zau,Zay,Zbi,Zbk,Zbo,Zbq,Zcb,Zcu,Zcv,Zcw,Zda,Zdb,Zdc,List.set_cons_zero,List.set_cons_succ,List.getD_cons_zero,List.getD_cons_succ,Zdd,Zdg,Zdm,Zen,decide_true,decide_false,eq_self,ix_eSs _ _ l _ i hi,ix_eSs _ _ l _ k hk,h3,q,hw,this]

theorem r_twice_loop0 (l : List Str) (hm : l.length ≤ maxLen) (n : Nat) (hn : l.length < n) : ∀ (d i m : Nat), l.length = i + d → d < m →
    loopN (evalCode (lim G0.cfg) n B_r15_twice_0) m ⟨[.vsl false (eSs l), .junk,.junk, .int .i64 i, .junk,.junk,.junk,.junk,.junk,.junk,.junk,.junk,.junk,.junk,.junk,.junk,.junk,.junk,.junk,.junk,.junk,.junk,.junk,.junk,.junk], []⟩ =
      bif (List.range' i d).all (fun j => !decide (l.getD j [] ∈ l.take j)) then some (.exit 0, ⟨[.junk,.junk,.junk,.junk,.junk,.junk,.junk,.junk,.junk,.junk,.junk,.junk,.junk,.junk,.junk,.junk,.junk,.junk,.junk,.junk,.junk,.junk,.junk,.junk,.junk], []⟩) else some (.ret, ⟨[.junk,.junk, .bool true, .junk,.junk,.junk,.junk,.junk,.junk,.junk,.junk,.junk,.junk,.junk,.junk,.junk,.junk,.junk,.junk,.junk,.junk,.junk,.junk,.junk,.junk], []⟩) := by
  have hm2 := hm
  rw [maxLen_eq] at hm2
  intro d
  induction d with
  | zero =>
    intro i m h1 h2
    obtain ⟨m, rfl⟩ : ∃ q, m = q + 1 := ⟨m - 1, by omega⟩
    have h3 : ¬ ((i : Int) < l.length) := by omega
    simp only [loop_e,EB_r15_twice_0,Zab,Zac,Zad,Zag,Zah,Zaj,Zak,Zal,Zas,Zav,Zay,Zbi,Zbk,Zbq,Zcg,Zcu,Zcw,Zdb,Zdc,List.set_cons_zero,List.set_cons_succ,List.getD_cons_zero,List.getD_cons_succ,Zdg,Zds,Zep,decide_false,eq_self,cond_true,h3,List.range'_zero,List.all_nil]
  | succ d ih =>
    intro i m h1 h2
    obtain ⟨m, rfl⟩ : ∃ q, m = q + 1 := ⟨m - 1, by omega⟩
    have h3 : i < l.length := by omega
    have h3' : (i : Int) < l.length := by omega
    have hw := w64s (n := i) (by omega)
    have e := r_twice_loop1 l hm n i h3 i 0 n (by omega) (by omega)
    rw [List.drop_zero, z0] at e
    have hgd : l.getD i [] = l[i] := by simp [List.getD_eq_getElem?_getD, h3]
    rw [List.range'_succ, List.all_cons, hgd]
    cases q : decide (l[i] ∈ l.take i)
    · rw [q] at e
      simp only [loop_e,EB_r15_twice_0,Zaa,Zab,Zac,Zad,Zae,Zaf,Zag,Zaj,Zak,Zan,Zap,Zar,Zat,Zau,Zay,Zbi,Zbk,Zbq,Zcg,Zcu,Zcv,Zcw,Zda,Zdb,Zdc,List.set_cons_zero,List.set_cons_succ,List.getD_cons_zero,List.getD_cons_succ,Zdd,Zdg,Zds,Zep,decide_true,Bool.not_false,eq_self,cond_false,h3',e,hw,ih (i + 1) m (by omega) (by omega),Bool.true_and]
    · rw [q] at e
      simp only [loop_e,EB_r15_twice_0,Zaa,Zab,Zac,Zad,Zae,Zaf,Zag,Zaj,Zak,Zam,Zao,Zar,Zat,Zaw,Zay,Zbi,Zbk,Zbq,Zcg,Zcu,Zcv,Zcw,Zda,Zdb,Zdc,List.set_cons_zero,List.set_cons_succ,List.getD_cons_zero,List.getD_cons_succ,Zdg,Zds,Zep,decide_true,Bool.not_true,eq_self,cond_true,cond_false,h3',e,Bool.false_and]

theorem nodup_range (l : List Str) : (List.range' 0 l.length).all (fun j => !decide (l.getD j [] ∈ l.take j)) = decide l.Nodup := by
  rw [← List.range_eq_range']
  rw [Bool.eq_iff_iff]
  simp only [List.all_eq_true,List.mem_range,Bool.not_eq_true',decide_eq_false_iff_not,decide_eq_true_eq]
  constructor
  · intro h
    rw [List.nodup_iff_pairwise_ne, List.pairwise_iff_getElem]
    intro i j hi hj hij e
    have := h j hj
    apply this
    rw [List.getD_eq_getElem?_getD, List.getElem?_eq_getElem hj, Option.getD_some, ← e]
    exact List.mem_take_iff_getElem.2 ⟨i, by omega, rfl⟩
  · intro h j hj hm
    rw [List.getD_eq_getElem?_getD, List.getElem?_eq_getElem hj, Option.getD_some] at hm
    obtain ⟨i, hi, e⟩ := List.mem_take_iff_getElem.1 hm
    rw [List.nodup_iff_pairwise_ne, List.pairwise_iff_getElem] at h
    exact h i j (by omega) hj (by omega) e

theorem r_twice (l : List Str) (hm : l.length ≤ maxLen) (H : AHeap) : lim G0.cfg (.func 63) [.vsl false (eSs l)] H = some (.bool (twiceB l), H) := by
  refine lim_flat rfl rfl P_r15_twice (l.length + 1) (fun h => fz_1 (fz_vsl _ _ _)) ?_ (fun _ => rfl) H
  have e := r_twice_loop0 l hm (l.length + 1) (by omega) l.length 0 (l.length + 1) (by omega) (by omega)
  rw [z0, nodup_range] at e
  rw [R_r15_twice]
  unfold twiceB
  cases q : decide l.Nodup
  · rw [q] at e
    simp only [Zab,Zac,Zae,Zaf,Zag,Zaj,Zak,Zam,Zao,Zat,Zbi,Zbk,Zct,Zcv,Zcw,Zda,Zdb,Zdc,List.set_cons_zero,List.set_cons_succ,List.getD_cons_zero,List.getD_cons_succ,Option.map_some,Bool.not_false,List.length_cons,List.length_nil,Nat.reduceAdd,Nat.reduceSub,eq_self,true_and,cond_false,List.length_cons,List.length_nil,List.replicate_succ,List.replicate_zero,List.cons_append,List.nil_append,e,resAll,resVals,resVal,Option.some.injEq,Prod.mk.injEq,true_and,exists_eq']
  · rw [q] at e
    simp only [Zab,Zac,Zae,Zaf,Zag,Zai,Zaj,Zak,Zap,Zat,Zbi,Zbk,Zct,Zcv,Zcw,Zda,Zdb,Zdc,List.set_cons_zero,List.set_cons_succ,List.getD_cons_zero,List.getD_cons_succ,Option.map_some,Bool.not_true,List.length_cons,List.length_nil,Nat.reduceAdd,Nat.reduceSub,eq_self,true_and,cond_true,List.length_cons,List.length_nil,List.replicate_succ,List.replicate_zero,List.cons_append,List.nil_append,e,resAll,resVals,resVal,Option.some.injEq,Prod.mk.injEq,true_and,exists_eq']
end Go.Proofs.Ytkimloceaihplaa.Ai
