/- Grammars: the reference's checks, walked. -/
import Derived.Test.YtkimloceaihplaamGB
namespace Go.Proofs.Ytkimloceaihplaa.Ai
open Go Go.Proofs
open AV renaming junk → J
open List renaming set_cons_zero → Q0, length_cons → Q1, length_nil → Q2, getD_cons_zero → Q3, getD_cons_succ → Q4, set_cons_succ → Q5, cons_append → Q6, getElem?_cons_zero → Q7, nil_append → Q8, take_succ_cons → Q9, drop_zero → Z1, replicate_succ → Z2, replicate_zero → Z3, drop_succ_cons → Z4, take_zero → Z5, length_map → Z8, take_nil → Y4, getD_eq_getElem?_getD → Y5, drop_eq_getElem_cons → Y6, drop_eq_nil_iff → Y7
open Option renaming bind_some → Z0, map_some → Z7
open Option.some renaming injEq → Z6
open Bool renaming false_and → Z9, not_false → Y0, and_self → Y1, and_false → Y2, not_true → Y3
set_option linter.unusedVariables false
set_option linter.unusedSimpArgs false
set_option maxRecDepth 10000
theorem f_Is (g : GramD) (hg : g.Ok) (s : Int) (H : AHeap) : lim G0.cfg (.func 81) [.agg (eGram g), .int .i64 s] H = some (.bool (isSym g s), H) := by
 refine lim_flat rfl rfl P_r15_Is 1 (fun h => fz_2 (fz_gram g h) rfl) ?_ (fun _ => rfl) H
 have hn := hg.nonterms
 have ht := hg.terms
 rw [maxLen_eq] at hn ht
 have hw : IntKind.i64.wrap (-(g.nonterms.length : Int)) = -(g.nonterms.length : Int) := w64 (by omega) (by omega)
 rw [R_r15_Is]
 unfold isSym
 by_cases q1 : 0 ≤ s
 case pos =>
  have q3 : ¬ (s < 0) := by omega
  have q4 : -(g.nonterms.length : Int) ≤ s := by omega
  by_cases q2 : s < (g.terms.length : Int)
  ·simp only [Zab,Zac,Zai,Zaj,Zak,Zay,Zaz,Zbb,Zbd,Zbf,Zbg,Zbi,Zbj,Zbk,Zbl,Zbn,Zbo,Zbq,Zby,Zcg,Zcs,Zcu,Zcv,Zcw,Zcx,Q0,Q5,Q3,Q4,Z0,Z7,Zdh,Zdk,Zdt,Zdx,Zdz,Zeb,Zeq,decide_true,Q7,Q1,Q2,if_true,Nat.reduceAdd,Nat.reduceSub,Nat.reduceLeDiff,eq_self,true_and,Q1,Q2,Z2,Z3,Q6,Q8,aload,acells,getArr,part,Y1,Z1,Q9,Z5,Q6,Q8,Q0,q1,q2,q4,resAll,resVals,resVal,Z6,Prod.mk.injEq,true_and,exists_eq']
  ·simp only [Zab,Zac,Zai,Zaj,Zak,Zay,Zaz,Zbb,Zbc,Zbe,Zbg,Zbh,Zbi,Zbj,Zbk,Zbl,Zbn,Zbo,Zbq,Zby,Zcg,Zcs,Zcu,Zcv,Zcw,Zcx,Q0,Q5,Q3,Q4,Z0,Z7,Zdh,Zdk,Zdt,Zdx,Zdz,Zeb,Zeq,decide_true,decide_false,Q7,Q1,Q2,if_true,Nat.reduceAdd,Nat.reduceSub,Nat.reduceLeDiff,eq_self,true_and,Q1,Q2,Z2,Z3,Q6,Q8,aload,acells,getArr,part,Z1,Q9,Z5,Q6,Q8,Q0,q1,q2,q3,q4,resAll,resVals,resVal,Z6,Prod.mk.injEq,true_and,Bool.and_true,exists_eq']
 case neg =>
  have q3 : s < 0 := by omega
  have q4 : s < (g.terms.length : Int) := by omega
  by_cases q2 : -(g.nonterms.length : Int) ≤ s
  ·simp only [Zab,Zac,Zai,Zaj,Zak,Zay,Zaz,Zbb,Zbc,Zbe,Zbg,Zbh,Zbi,Zbj,Zbk,Zbl,Zbn,Zbo,Zbq,Zbr,Zby,Zcg,Zcs,Zcu,Zcv,Zcw,Zcx,Q0,Q5,Q3,Q4,Z0,Z7,Zdh,Zdk,Zds,Zdt,Zdx,Zdz,Zeb,Zeq,decide_true,decide_false,Q7,Q1,Q2,if_true,Nat.reduceAdd,Nat.reduceSub,Nat.reduceLeDiff,eq_self,true_and,Q1,Q2,Z2,Z3,Q6,Q8,aload,acells,getArr,part,Y1,Z1,Z4,Q9,Z5,Q6,Q8,Q0,hw,q1,q2,q3,q4,resAll,resVals,resVal,Z6,Prod.mk.injEq,true_and,exists_eq']
  ·simp only [Zab,Zac,Zai,Zaj,Zak,Zay,Zaz,Zbb,Zbc,Zbe,Zbg,Zbh,Zbi,Zbj,Zbk,Zbl,Zbn,Zbo,Zbq,Zbr,Zby,Zcg,Zcs,Zcu,Zcv,Zcw,Zcx,Q0,Q5,Q3,Q4,Z0,Z7,Zdh,Zdk,Zds,Zdt,Zdx,Zdz,Zeb,Zeq,decide_true,decide_false,Q7,Q1,Q2,if_true,Nat.reduceAdd,Nat.reduceSub,Nat.reduceLeDiff,eq_self,true_and,Q1,Q2,Z2,Z3,Q6,Q8,aload,acells,getArr,part,Z1,Z4,Q9,Z5,Q6,Q8,Q0,hw,q1,q2,q3,q4,resAll,resVals,resVal,Z6,Prod.mk.injEq,true_and,Y2,exists_eq']
theorem r_counts_loop0 (g : GramD) (hg : g.Ok) (n : Nat) (h : AHeap) (hb : h[0]? = some (.arr 0 5 true [eGram g])) : ∀ (d i m : Nat), g.origins.length = i + d → d < m →
  loopN (evalCode (lim G0.cfg) n B_r15_counts_0) m ⟨(J::.ptr 0 0 0 0::J::.int .i64 i::J::J::J::J::J::J::J::J::J::J::J::J::J::J::J::J::J::J::J::J::J::J::J::J::J::J::J::J::J::J::J::J::J::J::J::J::J::J::J::J::J::J::J::J::J::J::J::J::J::J::J::J::J::J::J::J::J::J::J::J::J::J::J::J::J::J::J::J::J::J::J::J::J::J::J::J::J::J::J::J::J::J::J::J::J::J::J::J::J::J::[]), h⟩ =
   bif (g.origins.drop i).all (fun o => decide (0 ≤ o) && decide (o ≤ 5)) then some (.exit 0, ⟨(J::.ptr 0 0 0 0::J::J::J::J::J::J::J::J::J::J::J::J::J::J::J::J::J::J::J::J::J::J::J::J::J::J::J::J::J::J::J::J::J::J::J::J::J::J::J::J::J::J::J::J::J::J::J::J::J::J::J::J::J::J::J::J::J::J::J::J::J::J::J::J::J::J::J::J::J::J::J::J::J::J::J::J::J::J::J::J::J::J::J::J::J::J::J::J::J::J::J::J::[]), h⟩) else some (.ret, ⟨(J::J::.bool true::J::J::J::J::J::J::J::J::J::J::J::J::J::J::J::J::J::J::J::J::J::J::J::J::J::J::J::J::J::J::J::J::J::J::J::J::J::J::J::J::J::J::J::J::J::J::J::J::J::J::J::J::J::J::J::J::J::J::J::J::J::J::J::J::J::J::J::J::J::J::J::J::J::J::J::J::J::J::J::J::J::J::J::J::J::J::J::J::J::J::J::[]), h⟩) := by
 have hm := hg.origins
 rw [maxLen_eq] at hm
 intro d
 induction d with
 | zero =>
  intro i m h1 h2
  obtain ⟨m, rfl⟩ : ∃ q, m = q + 1 := ⟨m - 1, by omega⟩
  have e1 : g.origins.drop i = [] := Y7.2 (by omega)
  have h3 : ¬ ((i : Int) < g.origins.length) := by omega
  simp only [loop_e,EB_r15_counts_0,Zab,Zac,Zad,Zag,Zah,Zaj,Zak,Zal,Zas,Zav,Zay,Zbi,Zbk,Zbo,Zbq,Zby,Zcg,Zcv,Zcx,Zdb,Zdc,Zdd,Q0,Q5,Q3,Q4,Z0,Zdh,Zdt,Zdx,Zdz,Zep,decide_false,Q7,Q1,Q2,if_true,Nat.reduceAdd,Nat.reduceLeDiff,eq_self,cond_true,aload,acells,getArr,part,List.all_nil,Z1,Z4,Q9,Z5,Q0,hb,h3,e1]
 | succ d ih =>
  intro i m h1 h2
  obtain ⟨m, rfl⟩ : ∃ q, m = q + 1 := ⟨m - 1, by omega⟩
  have h3 : i < g.origins.length := by omega
  have h3' : (i : Int) < g.origins.length := by omega
  have e1 : g.origins.drop i = g.origins[i] :: g.origins.drop (i + 1) := Y6 h3
  have hw := w64s (n := i) (by omega)
  have := ih (i + 1) m (by omega) (by omega)
  by_cases q1 : g.origins[i] < 0
  case pos =>
   have q1' : ¬ (0 ≤ g.origins[i]) := by omega
   simp only [loop_e,EB_r15_counts_0,Zaa,Zab,Zac,Zad,Zae,Zag,Zai,Zaj,Zak,Zam,Zao,Zar,Zaw,Zay,Zbd,Zbg,Zbi,Zbj,Zbk,Zbl,Zbo,Zbq,Zby,Zcb,Zcg,Zcv,Zcw,Zcx,Zdb,Zdc,Zdd,Q0,Q5,Q3,Q4,Z0,Zdh,Zdt,Zdx,Zdz,Zep,decide_true,decide_false,Q7,Q1,Q2,if_true,Nat.reduceAdd,Nat.reduceLeDiff,eq_self,cond_false,aload,acells,getArr,part,eI,List.all_cons,Z1,Z4,Q9,Z5,Y4,Q0,hb,h3',ix_eIs _ _ g.origins _ i h3,e1,q1,q1',Z9]
  case neg =>
  have q1' : 0 ≤ g.origins[i] := by omega
  by_cases q2 : 5 < g.origins[i]
  case pos =>
   have q2' : ¬ (g.origins[i] ≤ 5) := by omega
   simp only [loop_e,EB_r15_counts_0,Zaa,Zab,Zac,Zad,Zae,Zag,Zai,Zaj,Zak,Zam,Zao,Zar,Zaw,Zay,Zbc,Zbh,Zbi,Zbj,Zbk,Zbl,Zbo,Zbq,Zby,Zcb,Zcg,Zcv,Zcw,Zcx,Zdb,Zdc,Zdd,Q0,Q5,Q3,Q4,Z0,Zdh,Zdj,Zdt,Zdx,Zdz,Zep,decide_true,decide_false,Q7,Q1,Q2,if_true,Nat.reduceAdd,Nat.reduceLeDiff,eq_self,cond_false,aload,acells,getArr,part,eI,List.all_cons,Z1,Z4,Q9,Z5,Y4,Q0,hb,h3',ix_eIs _ _ g.origins _ i h3,e1,q1,q1',q2,q2',Z9,Y2]
  case neg =>
   have q2' : g.origins[i] ≤ 5 := by omega
   simp only [loop_e,EB_r15_counts_0,Zaa,Zab,Zac,Zad,Zae,Zag,Zaj,Zak,Zan,Zar,Zas,Zau,Zay,Zbc,Zbh,Zbi,Zbj,Zbk,Zbl,Zbo,Zbq,Zby,Zcb,Zcg,Zcv,Zcw,Zcx,Zdb,Zdc,Zdd,Q0,Q5,Q3,Q4,Z0,Zde,Zdh,Zdj,Zdt,Zdx,Zdz,Zep,decide_true,decide_false,Q7,Q1,Q2,if_true,Nat.reduceAdd,Nat.reduceLeDiff,eq_self,aload,acells,getArr,part,eI,List.all_cons,Y1,Z1,Z4,Q9,Z5,Y4,Q0,hb,h3',ix_eIs _ _ g.origins _ i h3,e1,q1,q1',q2,q2',hw,this,Bool.true_and]
theorem r_counts_loop1 (g : GramD) (hg : g.Ok) (n : Nat) (h : AHeap) (hb : h[0]? = some (.arr 0 5 true [eGram g])) : ∀ (d i m : Nat) (w : Int), g.rules.length = i + d → d < m →
  loopN (evalCode (lim G0.cfg) n B_r15_counts_1) m ⟨(J::.ptr 0 0 0 0::J::J::.int .i64 w :: .int .i64 i::J::J::J::J::J::J::J::J::J::J::J::J::J::J::J::J::J::J::J::J::J::J::J::J::J::J::J::J::J::J::J::J::J::J::J::J::J::J::J::J::J::J::J::J::J::J::J::J::J::J::J::J::J::J::J::J::J::J::J::J::J::J::J::J::J::J::J::J::J::J::J::J::J::J::J::J::J::J::J::J::J::J::J::J::J::J::J::J::[]), h⟩ =
   some (.exit 2, ⟨(J::.ptr 0 0 0 0::J::J::.int .i64 (wsum (g.rules.drop i) w)::J::J::J::J::J::J::J::J::J::J::J::J::J::J::J::J::J::J::J::J::J::J::J::J::J::J::J::J::J::J::J::J::J::J::J::J::J::J::J::J::J::J::J::J::J::J::J::J::J::J::J::J::J::J::J::J::J::J::J::J::J::J::J::J::J::J::J::J::J::J::J::J::J::J::J::J::J::J::J::J::J::J::J::J::J::J::J::J::J::[]), h⟩) := by
 have hm := hg.rules
 rw [maxLen_eq] at hm
 intro d
 induction d with
 | zero =>
  intro i m w h1 h2
  obtain ⟨m, rfl⟩ : ∃ q, m = q + 1 := ⟨m - 1, by omega⟩
  have e1 : g.rules.drop i = [] := Y7.2 (by omega)
  have h3 : ¬ ((i : Int) < g.rules.length) := by omega
  simp only [loop_e,EB_r15_counts_1,Zab,Zac,Zad,Zag,Zah,Zaj,Zak,Zal,Zas,Zav,Zay,Zbi,Zbk,Zbo,Zbq,Zby,Zcg,Zcv,Zcx,Zdb,Zdc,Zdd,Q0,Q5,Q3,Q4,Z0,Zdh,Zdt,Zdx,Zdz,decide_false,Q7,Q1,Q2,if_true,Nat.reduceAdd,Nat.reduceLeDiff,eq_self,Z8,aload,acells,getArr,part,Z1,Z4,Q9,Z5,Q0,Z8,hb,h3,e1,wsum]
 | succ d ih =>
  intro i m w h1 h2
  obtain ⟨m, rfl⟩ : ∃ q, m = q + 1 := ⟨m - 1, by omega⟩
  have h3 : i < g.rules.length := by omega
  have h3' : (i : Int) < g.rules.length := by omega
  have e1 : g.rules.drop i = g.rules[i] :: g.rules.drop (i + 1) := Y6 h3
  have hw := w64s (n := i) (by omega)
  simp only [loop_e,EB_r15_counts_1,Zaa,Zab,Zac,Zad,Zae,Zag,Zaj,Zak,Zan,Zar,Zau,Zay,Zbi,Zbk,Zbo,Zbq,Zby,Zcb,Zcg,Zcv,Zcw,Zcx,Zdb,Zdc,Zdd,Q0,Q5,Q3,Q4,Z0,Zde,Zdh,Zdt,Zdx,Zdy,Zdz,Zep,decide_true,Q7,Q1,Q2,if_true,Nat.reduceAdd,Nat.reduceLeDiff,eq_self,Z8,aload,acells,getArr,part,Z1,Z4,Q9,Z5,Q0,Z8,hb,h3',ix_map eRule _ 5 _ g.rules _ i h3 rfl,e1,wsum,hw,ih (i + 1) m _ (by omega) (by omega)]
theorem r_counts (g : GramD) (hg : g.Ok) (H : AHeap) : lim G0.cfg (.func 62) [.agg (eGram g)] H = some (.bool (!countsOk g), H) := by
 refine lim_flat rfl rfl P_r15_counts (g.rules.length + g.origins.length + 1) (fun h => fz_1 (fz_gram g h)) ?_ (fun _ => rfl) H
 obtain ⟨N, hN⟩ : ∃ N, N = g.rules.length + g.origins.length + 1 := ⟨_, rfl⟩
 rw [← hN]
 have e := r_counts_loop0 g hg N [.arr 0 5 true [eGram g]] rfl g.origins.length 0 N (by omega) (by omega)
 rw [Z1, z0] at e
 have e2 := r_counts_loop1 g hg N [.arr 0 5 true [eGram g]] rfl g.rules.length 0 N 0 (by omega) (by omega)
 rw [Z1, z0] at e2
 rw [R_r15_counts]
 unfold countsOk
 generalize hall : (g.origins.all fun o => decide (0 ≤ o) && decide (o ≤ 5)) = ab at e
 by_cases c1 : (g.terms.length : Int) < 2
 case pos =>
  have d1 : ¬ ((2 : Int) ≤ g.terms.length) := by omega
  simp only [Zab,Zac,Zad,Zai,Zaj,Zak,Zam,Zar,Zay,Zaz,Zbd,Zbg,Zbi,Zbj,Zbk,Zbl,Zbn,Zbo,Zbq,Zby,Zcg,Zcs,Zcu,Zcv,Zcw,Zcx,Q0,Q5,Q3,Q4,Z0,Z7,Zdh,Zdt,Zdx,Zdz,Zeb,Zeq,decide_true,decide_false,Y0,Q7,Q1,Q2,if_true,Nat.reduceAdd,Nat.reduceSub,Nat.reduceLeDiff,eq_self,true_and,Q1,Q2,Z2,Z3,Q6,Q8,aload,acells,getArr,part,Z1,Q9,Z5,Q6,Q8,Q0,c1,d1,resAll,resVals,resVal,Z6,Prod.mk.injEq,true_and,Z9,exists_eq']
 case neg =>
 have d1 : (2 : Int) ≤ g.terms.length := by omega
 by_cases c2 : (256 : Int) < g.terms.length
 case pos =>
  have d2 : ¬ ((g.terms.length : Int) ≤ 256) := by omega
  simp only [Zab,Zac,Zad,Zai,Zaj,Zak,Zam,Zar,Zay,Zaz,Zbc,Zbd,Zbg,Zbh,Zbi,Zbj,Zbk,Zbl,Zbn,Zbo,Zbq,Zby,Zcg,Zcs,Zcu,Zcv,Zcw,Zcx,Q0,Q5,Q3,Q4,Z0,Z7,Zdh,Zdj,Zdt,Zdx,Zdz,Zeb,Zeq,decide_true,decide_false,Y0,Q7,Q1,Q2,if_true,Nat.reduceAdd,Nat.reduceSub,Nat.reduceLeDiff,eq_self,true_and,Q1,Q2,Z2,Z3,Q6,Q8,aload,acells,getArr,part,Z1,Q9,Z5,Q6,Q8,Q0,c1,d1,c2,d2,resAll,resVals,resVal,Z6,Prod.mk.injEq,true_and,Z9,Y2,exists_eq']
 case neg =>
 have d2 : (g.terms.length : Int) ≤ 256 := by omega
 by_cases c3 : (g.nonterms.length : Int) < 1
 case pos =>
  have d3 : ¬ ((1 : Int) ≤ g.nonterms.length) := by omega
  simp only [Zab,Zac,Zad,Zai,Zaj,Zak,Zam,Zar,Zay,Zaz,Zbc,Zbd,Zbg,Zbh,Zbi,Zbj,Zbk,Zbl,Zbn,Zbo,Zbq,Zby,Zcg,Zcs,Zcu,Zcv,Zcw,Zcx,Q0,Q5,Q3,Q4,Z0,Z7,Zdh,Zdj,Zdt,Zdx,Zdz,Zeb,Zeq,decide_true,decide_false,Y0,Q7,Q1,Q2,if_true,Nat.reduceAdd,Nat.reduceSub,Nat.reduceLeDiff,eq_self,true_and,Q1,Q2,Z2,Z3,Q6,Q8,aload,acells,getArr,part,Y1,Z1,Z4,Q9,Z5,Q6,Q8,Q0,c1,d1,c2,d2,c3,d3,resAll,resVals,resVal,Z6,Prod.mk.injEq,true_and,Z9,Y2,exists_eq']
 case neg =>
 have d3 : (1 : Int) ≤ g.nonterms.length := by omega
 by_cases c4 : (512 : Int) < g.nonterms.length
 case pos =>
  have d4 : ¬ ((g.nonterms.length : Int) ≤ 512) := by omega
  simp only [Zab,Zac,Zad,Zai,Zaj,Zak,Zam,Zar,Zay,Zaz,Zbc,Zbd,Zbg,Zbh,Zbi,Zbj,Zbk,Zbl,Zbn,Zbo,Zbq,Zby,Zcg,Zcs,Zcu,Zcv,Zcw,Zcx,Q0,Q5,Q3,Q4,Z0,Z7,Zdh,Zdj,Zdt,Zdx,Zdz,Zeb,Zeq,decide_true,decide_false,Y0,Q7,Q1,Q2,if_true,Nat.reduceAdd,Nat.reduceSub,Nat.reduceLeDiff,eq_self,true_and,Q1,Q2,Z2,Z3,Q6,Q8,aload,acells,getArr,part,Y1,Z1,Z4,Q9,Z5,Q6,Q8,Q0,c1,d1,c2,d2,c3,d3,c4,d4,resAll,resVals,resVal,Z6,Prod.mk.injEq,true_and,Z9,Y2,exists_eq']
 case neg =>
 have d4 : (g.nonterms.length : Int) ≤ 512 := by omega
 by_cases c5 : (g.origins.length : Int) = g.nonterms.length
 case neg =>
  simp only [Zab,Zac,Zad,Zai,Zaj,Zak,Zam,Zar,Zay,Zaz,Zbc,Zbh,Zbi,Zbj,Zbk,Zbl,Zbn,Zbo,Zbq,Zby,Zcg,Zcs,Zcu,Zcv,Zcw,Zcx,Q0,Q5,Q3,Q4,Z0,Z7,Zdh,Zdj,Zdm,Zdt,Zdx,Zdz,Zeb,Zep,Zeq,decide_true,decide_false,Y0,Q7,Q1,Q2,if_true,Nat.reduceAdd,Nat.reduceSub,Nat.reduceLeDiff,eq_self,true_and,Q1,Q2,Z2,Z3,Q6,Q8,aload,acells,getArr,part,Y1,Z1,Z4,Q9,Z5,Q6,Q8,Q0,c1,d1,c2,d2,c3,d3,c4,d4,c5,resAll,resVals,resVal,Z6,Prod.mk.injEq,true_and,Z9,Y2,exists_eq']
 case pos =>
 cases ab
 case false =>
  simp only [Zaa,Zab,Zac,Zad,Zae,Zaf,Zag,Zaj,Zak,Zam,Zao,Zas,Zat,Zay,Zaz,Zbc,Zbh,Zbi,Zbj,Zbk,Zbl,Zbn,Zbo,Zbq,Zby,Zcg,Zcs,Zcu,Zcv,Zcw,Zcx,Zdb,Zdc,Zdd,Q0,Q5,Q3,Q4,Z0,Z7,Zdh,Zdj,Zdm,Zdt,Zdx,Zdz,Zeb,Zep,Zeq,decide_true,decide_false,Y3,Y0,Q7,Q1,Q2,if_true,Nat.reduceAdd,Nat.reduceSub,Nat.reduceLeDiff,eq_self,true_and,cond_false,Q1,Q2,Z2,Z3,Q6,Q8,aload,acells,getArr,part,Y1,Z1,Z4,Q9,Z5,Q6,Q8,Q0,c1,d1,c2,d2,c3,d3,c4,d4,c5,e,resAll,resVals,resVal,Z6,Prod.mk.injEq,true_and,Z9,Y2,exists_eq']
 case true =>
 by_cases c7 : (g.rules.length : Int) < 1
 case pos =>
  have d7 : ¬ ((1 : Int) ≤ g.rules.length) := by omega
  simp only [Zaa,Zab,Zac,Zad,Zae,Zaf,Zag,Zai,Zaj,Zak,Zap,Zas,Zat,Zay,Zaz,Zbc,Zbd,Zbg,Zbh,Zbi,Zbj,Zbk,Zbl,Zbn,Zbo,Zbq,Zby,Zcg,Zcs,Zcu,Zcv,Zcw,Zcx,Zdb,Zdc,Zdd,Q0,Q5,Q3,Q4,Z0,Z7,Zdh,Zdj,Zdm,Zdt,Zdx,Zdz,Zeb,Zep,Zeq,decide_true,decide_false,Y3,Y0,Q7,Q1,Q2,if_true,Nat.reduceAdd,Nat.reduceSub,Nat.reduceLeDiff,eq_self,true_and,cond_true,Z8,Q1,Q2,Z2,Z3,Q6,Q8,aload,acells,getArr,part,Y1,Z1,Z4,Q9,Z5,Q6,Q8,Q0,Z8,c1,d1,c2,d2,c3,d3,c4,d4,c5,e,e2,c7,d7,resAll,resVals,resVal,Z6,Prod.mk.injEq,true_and,Z9,Y2,exists_eq']
 case neg =>
 have d7 : (1 : Int) ≤ g.rules.length := by omega
 by_cases c8 : (1024 : Int) < g.rules.length
 case pos =>
  have d8 : ¬ ((g.rules.length : Int) ≤ 1024) := by omega
  simp only [Zaa,Zab,Zac,Zad,Zae,Zaf,Zag,Zai,Zaj,Zak,Zap,Zas,Zat,Zay,Zaz,Zbc,Zbd,Zbg,Zbh,Zbi,Zbj,Zbk,Zbl,Zbn,Zbo,Zbq,Zby,Zcg,Zcs,Zcu,Zcv,Zcw,Zcx,Zdb,Zdc,Zdd,Q0,Q5,Q3,Q4,Z0,Z7,Zdh,Zdj,Zdm,Zdt,Zdx,Zdz,Zeb,Zep,Zeq,decide_true,decide_false,Y3,Y0,Q7,Q1,Q2,if_true,Nat.reduceAdd,Nat.reduceSub,Nat.reduceLeDiff,eq_self,true_and,cond_true,Z8,Q1,Q2,Z2,Z3,Q6,Q8,aload,acells,getArr,part,Y1,Z1,Z4,Q9,Z5,Q6,Q8,Q0,Z8,c1,d1,c2,d2,c3,d3,c4,d4,c5,e,e2,c7,d7,c8,d8,resAll,resVals,resVal,Z6,Prod.mk.injEq,true_and,Z9,Y2,exists_eq']
 case neg =>
 have d8 : (g.rules.length : Int) ≤ 1024 := by omega
 by_cases c9 : (32 : Int) < g.levels.length
 case pos =>
  have d9 : ¬ ((g.levels.length : Int) ≤ 32) := by omega
  simp only [Zaa,Zab,Zac,Zad,Zae,Zaf,Zag,Zai,Zaj,Zak,Zap,Zas,Zat,Zay,Zaz,Zbc,Zbd,Zbg,Zbh,Zbi,Zbj,Zbk,Zbl,Zbn,Zbo,Zbq,Zby,Zcg,Zcs,Zcu,Zcv,Zcw,Zcx,Zdb,Zdc,Zdd,Q0,Q5,Q3,Q4,Z0,Z7,Zdh,Zdj,Zdm,Zdt,Zdx,Zdz,Zeb,Zep,Zeq,decide_true,decide_false,Y3,Y0,Q7,Q1,Q2,if_true,Nat.reduceAdd,Nat.reduceSub,Nat.reduceLeDiff,eq_self,true_and,cond_true,Z8,Q1,Q2,Z2,Z3,Q6,Q8,aload,acells,getArr,part,Y1,Z1,Z4,Q9,Z5,Y4,Q6,Q8,Q0,Z8,c1,d1,c2,d2,c3,d3,c4,d4,c5,e,e2,c7,d7,c8,d8,c9,d9,resAll,resVals,resVal,Z6,Prod.mk.injEq,true_and,Z9,Y2,exists_eq']
 case neg =>
 have d9 : (g.levels.length : Int) ≤ 32 := by omega
 by_cases c10 : 8192 < wsum g.rules 0
 case pos =>
  have d10 : ¬ (wsum g.rules 0 ≤ 8192) := by omega
  simp only [Zaa,Zab,Zac,Zad,Zae,Zaf,Zag,Zai,Zaj,Zak,Zap,Zas,Zat,Zay,Zaz,Zbc,Zbh,Zbi,Zbj,Zbk,Zbl,Zbn,Zbo,Zbq,Zby,Zcg,Zcs,Zcu,Zcv,Zcw,Zcx,Zdb,Zdc,Zdd,Q0,Q5,Q3,Q4,Z0,Z7,Zdh,Zdj,Zdm,Zdt,Zdx,Zdz,Zeb,Zep,Zeq,decide_true,decide_false,Y3,Y0,Q7,Q1,Q2,if_true,Nat.reduceAdd,Nat.reduceSub,Nat.reduceLeDiff,eq_self,true_and,cond_true,Z8,Q1,Q2,Z2,Z3,Q6,Q8,aload,acells,getArr,part,Y1,Z1,Z4,Q9,Z5,Y4,Q6,Q8,Q0,Z8,c1,d1,c2,d2,c3,d3,c4,d4,c5,e,e2,c7,d7,c8,d8,c9,d9,c10,d10,resAll,resVals,resVal,Z6,Prod.mk.injEq,true_and,Y2,exists_eq']
 case neg =>
 have d10 : wsum g.rules 0 ≤ 8192 := by omega
 simp only [Zaa,Zab,Zac,Zad,Zae,Zaf,Zag,Zai,Zaj,Zak,Zap,Zas,Zat,Zay,Zaz,Zbc,Zbh,Zbi,Zbj,Zbk,Zbl,Zbn,Zbo,Zbq,Zby,Zcg,Zcs,Zcu,Zcv,Zcw,Zcx,Zdb,Zdc,Zdd,Q0,Q5,Q3,Q4,Z0,Z7,Zdh,Zdj,Zdm,Zdt,Zdx,Zdz,Zeb,Zep,Zeq,decide_true,decide_false,Y3,Q7,Q1,Q2,if_true,Nat.reduceAdd,Nat.reduceSub,Nat.reduceLeDiff,eq_self,true_and,cond_true,Z8,Q1,Q2,Z2,Z3,Q6,Q8,aload,acells,getArr,part,Y1,Z1,Z4,Q9,Z5,Y4,Q6,Q8,Q0,Z8,c1,d1,c2,d2,c3,d3,c4,d4,c5,e,e2,c7,d7,c8,d8,c9,d9,c10,d10,resAll,resVals,resVal,Z6,Prod.mk.injEq,true_and,exists_eq']
theorem r_twice_loop1 (l : List Str) (hm : l.length ≤ maxLen) (n : Nat) (i : Nat) (hi : i < l.length) : ∀ (d k m : Nat), i = k + d → d < m →
  loopN (evalCode (lim G0.cfg) n B_r15_twice_1) m ⟨[.vsl false (eSs l), J,J, .int .i64 i, .int .i64 k, J,J,J,J,J,J,J,J,J,J,J,J,J,J,J,J,J,J,J,J], []⟩ =
   bif decide (l[i] ∈ (l.take i).drop k) then some (.ret, ⟨[J,J, .bool true, J,J,J,J,J,J,J,J,J,J,J,J,J,J,J,J,J,J,J,J,J,J], []⟩) else some (.exit 2, ⟨[.vsl false (eSs l), J,J, .int .i64 i, J,J,J,J,J,J,J,J,J,J,J,J,J,J,J,J,J,J,J,J,J], []⟩) := by
 rw [maxLen_eq] at hm
 intro d
 induction d with
 | zero =>
  intro k m h1 h2
  obtain ⟨m, rfl⟩ : ∃ q, m = q + 1 := ⟨m - 1, by omega⟩
  have e1 : (l.take i).drop k = [] := Y7.2 (by simp; omega)
  have h3 : ¬ ((k : Int) < (i : Int)) := by omega
  simp only [loop_e,EB_r15_twice_1,Zab,Zac,Zad,Zag,Zah,Zaj,Zak,Zal,Zas,Zav,Zay,Zbi,Zbk,Zbq,Zcv,Zcx,Zdb,Zdc,Zdd,Q0,Q5,Q3,Q4,Zdh,decide_false,eq_self,cond_false,h3,e1,List.not_mem_nil]
 | succ d ih =>
  intro k m h1 h2
  obtain ⟨m, rfl⟩ : ∃ q, m = q + 1 := ⟨m - 1, by omega⟩
  have h3 : (k : Int) < (i : Int) := by omega
  have hk : k < l.length := by omega
  have e1 : (l.take i).drop k = l[k] :: (l.take i).drop (k + 1) := by
   rw [Y6 (by simp; omega)]; simp
  have hw := w64s (n := k) (by omega)
  have := ih (k + 1) m (by omega) (by omega)
  rw [e1]
  by_cases q : l[k] = l[i]
  ·have q2 : decide (l[i] ∈ l[k] :: (l.take i).drop (k + 1)) = true := by simp [q]
   rw [q2]
   simp only [loop_e,EB_r15_twice_1,Zaa,Zab,Zac,Zad,Zae,Zag,Zai,Zaj,Zak,Zam,Zao,Zar,Zaw,Zay,Zbi,Zbk,Zbo,Zbq,Zcb,Zcv,Zcw,Zcx,Zdb,Zdc,Zdd,Q0,Q5,Q3,Q4,Zdh,Zdn,Zeo,decide_true,eq_self,cond_true,ix_eSs _ _ l _ i hi,ix_eSs _ _ l _ k hk,h3,q]
  ·have q2 : decide (l[i] ∈ l[k] :: (l.take i).drop (k + 1)) = decide (l[i] ∈ (l.take i).drop (k + 1)) := by
    have q' : ¬ l[i] = l[k] := fun e => q e.symm
    simp [q']
   rw [q2]
   simp only [loop_e,EB_r15_twice_1,Zaa,Zab,Zac,Zad,Zae,Zag,Zaj,Zak,Zan,Zar,Zas,Zau,Zay,Zbi,Zbk,Zbo,Zbq,Zcb,Zcv,Zcw,Zcx,Zdb,Zdc,Zdd,Q0,Q5,Q3,Q4,Zde,Zdh,Zdn,Zeo,decide_true,decide_false,eq_self,ix_eSs _ _ l _ i hi,ix_eSs _ _ l _ k hk,h3,q,hw,this]
theorem r_twice_loop0 (l : List Str) (hm : l.length ≤ maxLen) (n : Nat) (hn : l.length < n) : ∀ (d i m : Nat), l.length = i + d → d < m →
  loopN (evalCode (lim G0.cfg) n B_r15_twice_0) m ⟨[.vsl false (eSs l), J,J, .int .i64 i, J,J,J,J,J,J,J,J,J,J,J,J,J,J,J,J,J,J,J,J,J], []⟩ =
   bif (List.range' i d).all (fun j => !decide (l.getD j [] ∈ l.take j)) then some (.exit 0, ⟨[J,J,J,J,J,J,J,J,J,J,J,J,J,J,J,J,J,J,J,J,J,J,J,J,J], []⟩) else some (.ret, ⟨[J,J, .bool true, J,J,J,J,J,J,J,J,J,J,J,J,J,J,J,J,J,J,J,J,J,J], []⟩) := by
 have hm2 := hm
 rw [maxLen_eq] at hm2
 intro d
 induction d with
 | zero =>
  intro i m h1 h2
  obtain ⟨m, rfl⟩ : ∃ q, m = q + 1 := ⟨m - 1, by omega⟩
  have h3 : ¬ ((i : Int) < l.length) := by omega
  simp only [loop_e,EB_r15_twice_0,Zab,Zac,Zad,Zag,Zah,Zaj,Zak,Zal,Zas,Zav,Zay,Zbi,Zbk,Zbq,Zcg,Zcv,Zcx,Zdc,Zdd,Q0,Q5,Q3,Q4,Zdh,Zdt,Zeq,decide_false,eq_self,cond_true,h3,List.range'_zero,List.all_nil]
 | succ d ih =>
  intro i m h1 h2
  obtain ⟨m, rfl⟩ : ∃ q, m = q + 1 := ⟨m - 1, by omega⟩
  have h3 : i < l.length := by omega
  have h3' : (i : Int) < l.length := by omega
  have hw := w64s (n := i) (by omega)
  have e := r_twice_loop1 l hm n i h3 i 0 n (by omega) (by omega)
  rw [Z1, z0] at e
  have hgd : l.getD i [] = l[i] := by simp [Y5, h3]
  rw [List.range'_succ, List.all_cons, hgd]
  cases q : decide (l[i] ∈ l.take i)
  ·rw [q] at e
   simp only [loop_e,EB_r15_twice_0,Zaa,Zab,Zac,Zad,Zae,Zaf,Zag,Zaj,Zak,Zan,Zap,Zar,Zat,Zau,Zay,Zbi,Zbk,Zbq,Zcg,Zcv,Zcw,Zcx,Zdb,Zdc,Zdd,Q0,Q5,Q3,Q4,Zde,Zdh,Zdt,Zeq,decide_true,Y0,eq_self,cond_false,h3',e,hw,ih (i + 1) m (by omega) (by omega),Bool.true_and]
  ·rw [q] at e
   simp only [loop_e,EB_r15_twice_0,Zaa,Zab,Zac,Zad,Zae,Zaf,Zag,Zaj,Zak,Zam,Zao,Zar,Zat,Zaw,Zay,Zbi,Zbk,Zbq,Zcg,Zcv,Zcw,Zcx,Zdb,Zdc,Zdd,Q0,Q5,Q3,Q4,Zdh,Zdt,Zeq,decide_true,Y3,eq_self,cond_true,cond_false,h3',e,Z9]
theorem nodup_range (l : List Str) : (List.range' 0 l.length).all (fun j => !decide (l.getD j [] ∈ l.take j)) = decide l.Nodup := by
 rw [← List.range_eq_range']
 rw [Bool.eq_iff_iff]
 simp only [List.all_eq_true,List.mem_range,Bool.not_eq_true',decide_eq_false_iff_not,decide_eq_true_eq]
 constructor
 ·intro h
  rw [List.nodup_iff_pairwise_ne, List.pairwise_iff_getElem]
  intro i j hi hj hij e
  have := h j hj
  apply this
  rw [Y5, List.getElem?_eq_getElem hj, Option.getD_some, ← e]
  exact List.mem_take_iff_getElem.2 ⟨i, by omega, rfl⟩
 ·intro h j hj hm
  rw [Y5, List.getElem?_eq_getElem hj, Option.getD_some] at hm
  obtain ⟨i, hi, e⟩ := List.mem_take_iff_getElem.1 hm
  rw [List.nodup_iff_pairwise_ne, List.pairwise_iff_getElem] at h
  exact h i j (by omega) hj (by omega) e
theorem r_twice (l : List Str) (hm : l.length ≤ maxLen) (H : AHeap) : lim G0.cfg (.func 63) [.vsl false (eSs l)] H = some (.bool (twiceB l), H) := by
 refine lim_flat rfl rfl P_r15_twice (l.length + 1) (fun h => fz_1 (fz_vsl _ _ _)) ?_ (fun _ => rfl) H
 have e := r_twice_loop0 l hm (l.length + 1) (by omega) l.length 0 (l.length + 1) (by omega) (by omega)
 rw [z0, nodup_range] at e
 rw [R_r15_twice]
 unfold twiceB
 cases q : decide l.Nodup
 ·rw [q] at e
  simp only [Zab,Zac,Zae,Zaf,Zag,Zaj,Zak,Zam,Zao,Zat,Zbi,Zbk,Zcu,Zcw,Zcx,Zdb,Zdc,Zdd,Q0,Q5,Q3,Q4,Z7,Y0,Q1,Q2,Nat.reduceAdd,Nat.reduceSub,eq_self,true_and,cond_false,Q1,Q2,Z2,Z3,Q6,Q8,e,resAll,resVals,resVal,Z6,Prod.mk.injEq,true_and,exists_eq']
 ·rw [q] at e
  simp only [Zab,Zac,Zae,Zaf,Zag,Zai,Zaj,Zak,Zap,Zat,Zbi,Zbk,Zcu,Zcw,Zcx,Zdb,Zdc,Zdd,Q0,Q5,Q3,Q4,Z7,Y3,Q1,Q2,Nat.reduceAdd,Nat.reduceSub,eq_self,true_and,cond_true,Q1,Q2,Z2,Z3,Q6,Q8,e,resAll,resVals,resVal,Z6,Prod.mk.injEq,true_and,exists_eq']
end Go.Proofs.Ytkimloceaihplaa.Ai
namespace Go.Proofs.Ytkimloceaihplaa.Ai
open Go Go.Proofs
open AV renaming junk → J
open List renaming set_cons_zero → Q0, length_cons → Q1, length_nil → Q2, cons_append → Q3, nil_append → Q4, getElem?_cons_zero → Q5, getD_cons_zero → Q6, getD_cons_succ → Q7, drop_succ_cons → Q8, take_succ_cons → Q9, set_cons_succ → Z0, getElem?_cons_succ → Z1, drop_zero → Z3, replicate_succ → Z4, replicate_zero → Z5, take_zero → Z6, take_nil → Z8, all_cons → Y0, length_map → Y2, all_nil → Y3
open Option renaming bind_some → Z2, map_some → Z9
open Option.some renaming injEq → Z7
open Bool renaming and_self → Y1, not_true → Y4, not_false → Y5, true_or → Y6, false_and → Y7, and_false → Y8
set_option linter.unusedVariables false
set_option linter.unusedSimpArgs false
set_option maxRecDepth 10000
set_option maxHeartbeats 4000000
theorem r_start_loop (g : GramD) (hg : g.Ok) (n : Nat) (h : AHeap) (hb : h[0]? = some (.arr 0 5 true [eGram g])) : ∀ (d i m : Nat), g.rules.length = i + d → d < m →
  loopN (evalCode (lim G0.cfg) n B_r15_start_0) m ⟨(J::.ptr 0 0 0 0::J::J::.int .i64 i::J::J::J::J::J::J::J::J::J::J::J::J::J::J::J::J::J::J::J::J::J::J::J::J::J::J::J::J::J::J::J::J::J::J::J::J::J::J::J::J::J::J::J::[]), h⟩ =
   bif (g.rules.drop i).any (fun x => decide (x.left = 0)) then some (.ret, ⟨(J::J::.bool true::J::J::J::J::J::J::J::J::J::J::J::J::J::J::J::J::J::J::J::J::J::J::J::J::J::J::J::J::J::J::J::J::J::J::J::J::J::J::J::J::J::J::J::J::J::[]), h⟩) else some (.exit 0, ⟨(J::J::J::J::J::J::J::J::J::J::J::J::J::J::J::J::J::J::J::J::J::J::J::J::J::J::J::J::J::J::J::J::J::J::J::J::J::J::J::J::J::J::J::J::J::J::J::J::[]), h⟩) := by
 have hm := hg.rules
 rw [maxLen_eq] at hm
 intro d
 induction d with
 | zero =>
  intro i m h1 h2
  obtain ⟨m, rfl⟩ : ∃ q, m = q + 1 := ⟨m - 1, by omega⟩
  have e1 : g.rules.drop i = [] := List.drop_eq_nil_iff.2 (by omega)
  have h3 : ¬ ((i : Int) < g.rules.length) := by omega
  simp only [loop_e,EB_r15_start_0,Zab,Zac,Zad,Zag,Zah,Zaj,Zak,Zal,Zas,Zav,Zay,Zbi,Zbk,Zbo,Zbq,Zby,Zcg,Zcv,Zcx,Zdc,Zdd,Q0,Z0,Q6,Q7,Z2,Zdh,Zdt,Zdx,Zdz,decide_false,Q5,Q1,Q2,if_true,Nat.reduceAdd,Nat.reduceLeDiff,eq_self,cond_false,Y2,aload,acells,getArr,part,Z3,Q8,Q9,Z6,Q0,Y2,hb,h3,e1,List.any_nil]
 | succ d ih =>
  intro i m h1 h2
  obtain ⟨m, rfl⟩ : ∃ q, m = q + 1 := ⟨m - 1, by omega⟩
  have h3 : i < g.rules.length := by omega
  have h3' : (i : Int) < g.rules.length := by omega
  have e1 : g.rules.drop i = g.rules[i] :: g.rules.drop (i + 1) := List.drop_eq_getElem_cons h3
  have hw := w64s (n := i) (by omega)
  by_cases q : (g.rules[i]).left = 0
  ·simp only [loop_e,EB_r15_start_0,Zaa,Zab,Zac,Zad,Zae,Zag,Zai,Zaj,Zak,Zam,Zao,Zar,Zaw,Zay,Zbi,Zbk,Zbo,Zbq,Zby,Zcb,Zcg,Zcv,Zcw,Zcx,Zdb,Zdc,Zdd,Q0,Z0,Q6,Q7,Z2,Zdh,Zdl,Zdt,Zdx,Zdy,Zdz,decide_true,Q5,Q1,Q2,if_true,Nat.reduceAdd,Nat.reduceLeDiff,eq_self,cond_true,Y2,aload,acells,getArr,part,Z3,Q8,Q9,Z6,Q0,Y2,hb,h3',ix_map eRule _ 5 _ g.rules _ i h3 rfl,e1,List.any_cons,q,Y6]
  ·simp only [loop_e,EB_r15_start_0,Zaa,Zab,Zac,Zad,Zae,Zag,Zaj,Zak,Zan,Zar,Zas,Zau,Zay,Zbi,Zbk,Zbo,Zbq,Zby,Zcb,Zcg,Zcv,Zcw,Zcx,Zdb,Zdc,Zdd,Q0,Z0,Q6,Q7,Z2,Zde,Zdh,Zdl,Zdt,Zdx,Zdy,Zdz,decide_true,decide_false,Q5,Q1,Q2,if_true,Nat.reduceAdd,Nat.reduceLeDiff,eq_self,Y2,aload,acells,getArr,part,Z3,Q8,Q9,Z6,Q0,Y2,hb,h3',ix_map eRule _ 5 _ g.rules _ i h3 rfl,e1,List.any_cons,q,hw,ih (i + 1) m (by omega) (by omega),Bool.false_or]
theorem r_start (g : GramD) (hg : g.Ok) (hr : g.rules ≠ []) (H : AHeap) : lim G0.cfg (.func 64) [.agg (eGram g)] H = some (.bool (!startOk g), H) := by
 refine lim_flat rfl rfl P_r15_start (g.rules.length + 1) (fun h => fz_1 (fz_gram g h)) ?_ (fun _ => rfl) H
 have t1 := f_Is g hg
 obtain ⟨r0, R, hR⟩ : ∃ a b, g.rules = a :: b := by cases e : g.rules with | nil => exact absurd e hr | cons a b => exact ⟨a, b, rfl⟩
 have e := fun x : AObj => r_start_loop g hg (g.rules.length + 1) [.arr 0 5 true [eGram g], x] rfl R.length 1 (g.rules.length + 1) (by rw [hR]; simp; omega) (by rw [hR]; simp; omega)
 have e1 : g.rules.drop 1 = R := by rw [hR]; rfl
 have z1 : ((1 : Nat) : Int) = 1 := rfl
 simp only [e1,z1] at e
 have i0 : ∀ h, aindexAddr h 5 (.vsl false (g.rules.map eRule)) (.int .i64 0) = some (.vptr (eRule r0) 0) := fun h => by rw [hR]; rfl
 have hall : (R.all fun x => decide (x.left ≠ 0)) = !(R.any fun x => decide (x.left = 0)) := by
  rw [List.all_eq_not_any_not]; congr 2; funext x; simp
 rw [R_r15_start]
 simp only [startOk,hR]
 rw [hall]
 simp only [← hR]
 generalize (R.any fun x => decide (x.left = 0)) = anyb at e
 by_cases q1 : r0.left = 0
 case neg => simp only [Zab,Zac,Zad,Zai,Zaj,Zak,Zam,Zar,Zay,Zaz,Zba,Zbd,Zbg,Zbi,Zbj,Zbk,Zbl,Zbm,Zbn,Zbo,Zbp,Zbq,Zby,Zcb,Zcs,Zcu,Zcv,Zcw,Zcx,Zcy,Q0,Z0,Q6,Q7,Z2,Z9,Zdm,Zdx,Zdz,Zea,Zeb,decide_false,Y5,Q5,Z1,Q1,Q2,if_true,Nat.reduceAdd,Nat.reduceSub,Nat.reduceLeDiff,Int.reduceNeg,eq_self,and_self,true_and,Q1,Q2,Z4,Z5,Q3,Q4,aload,acells,getArr,part,astore,putCells,Y0,Y3,cellOk,Y1,Z3,Q8,Q9,Z6,Z8,Q3,Q4,Q0,i0,q1,resAll,resVals,resVal,Z7,Prod.mk.injEq,true_and,Y7,exists_eq']
 case pos =>
 by_cases q2 : (r0.right.length : Int) = 1
 case neg => simp only [Zab,Zac,Zad,Zai,Zaj,Zak,Zam,Zar,Zay,Zaz,Zba,Zbc,Zbd,Zbg,Zbh,Zbi,Zbj,Zbk,Zbl,Zbm,Zbn,Zbo,Zbp,Zbq,Zby,Zcb,Zcg,Zcs,Zcu,Zcv,Zcw,Zcx,Zcy,Q0,Z0,Q6,Q7,Z2,Z9,Zdm,Zdt,Zdx,Zdz,Zea,Zeb,Zep,decide_true,decide_false,Y4,Y5,Q5,Z1,Q1,Q2,if_true,Nat.reduceAdd,Nat.reduceSub,Nat.reduceLeDiff,Int.reduceNeg,eq_self,and_self,true_and,Q1,Q2,Z4,Z5,Q3,Q4,aload,acells,getArr,part,astore,putCells,Y0,Y3,cellOk,Y1,Z3,Q8,Q9,Z6,Z8,Q3,Q4,Q0,i0,q1,q2,resAll,resVals,resVal,Z7,Prod.mk.injEq,true_and,Y7,Y8,exists_eq']
 case pos =>
 obtain ⟨y, hy⟩ : ∃ y, r0.right = [y] := List.length_eq_one_iff.1 (by omega)
 have i1 : ∀ h, aindexAddr h 1 (.vsl false (eIs r0.right)) (.int .i64 0) = some (.vptr (eI y) 0) := fun h => by rw [hy]; rfl
 have hy0 : r0.right.getD 0 0 = y := by rw [hy]; rfl
 rw [hy0]
 by_cases q3 : (-1 : Int) ≤ y
 case pos =>
  have q3' : ¬ (y < -1) := by omega
  simp only [Zab,Zac,Zad,Zai,Zaj,Zak,Zam,Zar,Zay,Zaz,Zba,Zbc,Zbd,Zbg,Zbh,Zbi,Zbj,Zbk,Zbl,Zbm,Zbn,Zbo,Zbp,Zbq,Zby,Zcb,Zcg,Zcs,Zcu,Zcv,Zcw,Zcx,Zcy,Q0,Z0,Q6,Q7,Z2,Z9,Zdk,Zdm,Zdt,Zdx,Zdz,Zea,Zeb,Zep,decide_true,decide_false,Y4,Y5,Q5,Z1,Q1,Q2,if_true,Nat.reduceAdd,Nat.reduceSub,Nat.reduceLeDiff,Int.reduceNeg,eq_self,and_self,true_and,Q1,Q2,Z4,Z5,Q3,Q4,aload,acells,getArr,part,eI,astore,putCells,Y0,Y3,cellOk,Y1,Z3,Q8,Q9,Z6,Z8,Q3,Q4,Q0,i0,i1,q1,q2,q3,q3',resAll,resVals,resVal,Z7,Prod.mk.injEq,true_and,Y7,Y8,exists_eq']
 case neg =>
 have q3' : y < -1 := by omega
 cases hs : isSym g y
 case false => simp only [Zab,Zac,Zad,Zai,Zaj,Zak,Zam,Zar,Zay,Zaz,Zba,Zbc,Zbh,Zbi,Zbj,Zbk,Zbl,Zbm,Zbn,Zbo,Zbp,Zbq,Zbr,Zby,Zcb,Zcg,Zcp,Zcq,Zcs,Zcu,Zcv,Zcw,Zcx,Zcy,Zcz,Zda,Q0,Z0,Q6,Q7,Z2,Z9,Zdk,Zdm,Zdr,Zdt,Zdx,Zdz,Zea,Zeb,Zep,decide_true,decide_false,Y4,Y5,Q5,Z1,Q1,Q2,if_true,Nat.reduceAdd,Nat.reduceSub,Nat.reduceLeDiff,Int.reduceNeg,eq_self,and_self,true_and,Q1,Q2,Z4,Z5,Q3,Q4,aload,acells,getArr,part,eI,astore,putCells,Y0,Y3,cellOk,Y1,Z3,Q8,Q9,Z6,Z8,Q3,Q4,Q0,i0,i1,q1,q2,q3,q3',t1,hs,resAll,resVals,resVal,Z7,Prod.mk.injEq,true_and,Y7,Y8,exists_eq']
 case true =>
 cases anyb
 case false => 
  simp only [cond_false] at e
  simp only [Zaa,Zab,Zac,Zad,Zae,Zaf,Zag,Zai,Zaj,Zak,Zap,Zas,Zat,Zay,Zaz,Zba,Zbc,Zbh,Zbi,Zbj,Zbk,Zbl,Zbm,Zbn,Zbo,Zbp,Zbq,Zbr,Zby,Zcb,Zcg,Zcp,Zcq,Zcs,Zcu,Zcv,Zcw,Zcx,Zcy,Zcz,Zda,Zdb,Zdc,Zdd,Q0,Z0,Q6,Q7,Z2,Z9,Zdk,Zdm,Zdr,Zdt,Zdx,Zdz,Zea,Zeb,Zep,decide_true,decide_false,Y4,Y5,Q5,Z1,Q1,Q2,if_true,Nat.reduceAdd,Nat.reduceSub,Nat.reduceLeDiff,Int.reduceNeg,eq_self,and_self,true_and,Q1,Q2,Z4,Z5,Q3,Q4,aload,acells,getArr,part,eI,astore,putCells,Y0,Y3,cellOk,Y1,Z3,Q8,Q9,Z6,Z8,Q3,Q4,Q0,i0,i1,q1,q2,q3,q3',t1,hs,e,resAll,resVals,resVal,Z7,Prod.mk.injEq,true_and,exists_eq']
 case true =>
  simp only [cond_true] at e
  simp only [Zaa,Zab,Zac,Zad,Zae,Zaf,Zag,Zaj,Zak,Zam,Zao,Zas,Zat,Zay,Zaz,Zba,Zbc,Zbh,Zbi,Zbj,Zbk,Zbl,Zbm,Zbn,Zbo,Zbp,Zbq,Zbr,Zby,Zcb,Zcg,Zcp,Zcq,Zcs,Zcu,Zcv,Zcw,Zcx,Zcy,Zcz,Zda,Zdb,Zdc,Zdd,Q0,Z0,Q6,Q7,Z2,Z9,Zdk,Zdm,Zdr,Zdt,Zdx,Zdz,Zea,Zeb,Zep,decide_true,decide_false,Y4,Y5,Q5,Z1,Q1,Q2,if_true,Nat.reduceAdd,Nat.reduceSub,Nat.reduceLeDiff,Int.reduceNeg,eq_self,and_self,true_and,Q1,Q2,Z4,Z5,Q3,Q4,aload,acells,getArr,part,eI,astore,putCells,Y0,Y3,cellOk,Y1,Z3,Q8,Q9,Z6,Z8,Q3,Q4,Q0,i0,i1,q1,q2,q3,q3',t1,hs,e,resAll,resVals,resVal,Z7,Prod.mk.injEq,true_and,Y8,exists_eq']
theorem r_rule_loop (g : GramD) (hg : g.Ok) (x : RuleD) (hx : x.Ok) (n : Nat) (h : AHeap) (hb : h[0]? = some (.arr 0 5 true [eGram g])) (hb1 : h[1]? = some (.arr 0 5 true [eRule x])) : ∀ (d i m : Nat), x.right.length = i + d → d < m →
  loopN (evalCode (lim G0.cfg) n B_r15_rule_0) m ⟨(J::J::.ptr 0 0 0 0::J::J::.ptr 1 0 0 0 :: .int .i64 i::J::J::J::J::J::J::J::J::J::J::J::J::J::J::J::J::J::J::J::J::J::J::J::J::J::J::J::J::J::J::J::J::J::J::J::J::J::J::J::J::J::J::J::J::J::J::J::J::J::J::J::J::J::J::J::J::J::J::J::J::J::J::J::J::J::J::J::J::J::J::J::J::J::J::J::J::J::J::J::J::J::J::J::J::J::J::J::J::J::J::J::[]), h⟩ =
   bif (x.right.drop i).any (badSym g) then some (.ret, ⟨(J::J::J::J::.int .i64 21::J::J::J::J::J::J::J::J::J::J::J::J::J::J::J::J::J::J::J::J::J::J::J::J::J::J::J::J::J::J::J::J::J::J::J::J::J::J::J::J::J::J::J::J::J::J::J::J::J::J::J::J::J::J::J::J::J::J::J::J::J::J::J::J::J::J::J::J::J::J::J::J::J::J::J::J::J::J::J::J::J::J::J::J::J::J::J::J::J::J::J::J::J::[]), h⟩) else some (.exit 0, ⟨(J::J::.ptr 0 0 0 0::J::J::.ptr 1 0 0 0::J::J::J::J::J::J::J::J::J::J::J::J::J::J::J::J::J::J::J::J::J::J::J::J::J::J::J::J::J::J::J::J::J::J::J::J::J::J::J::J::J::J::J::J::J::J::J::J::J::J::J::J::J::J::J::J::J::J::J::J::J::J::J::J::J::J::J::J::J::J::J::J::J::J::J::J::J::J::J::J::J::J::J::J::J::J::J::J::J::J::J::J::[]), h⟩) := by
 have hm := hx.right
 rw [maxLen_eq] at hm
 have t1 := f_Is g hg
 intro d
 induction d with
 | zero =>
  intro i m h1 h2
  obtain ⟨m, rfl⟩ : ∃ q, m = q + 1 := ⟨m - 1, by omega⟩
  have e1 : x.right.drop i = [] := List.drop_eq_nil_iff.2 (by omega)
  have h3 : ¬ ((i : Int) < x.right.length) := by omega
  simp only [loop_e,EB_r15_rule_0,Zab,Zac,Zad,Zag,Zah,Zaj,Zak,Zal,Zas,Zav,Zay,Zbi,Zbk,Zbo,Zbq,Zby,Zcg,Zcv,Zcx,Zdb,Zdc,Zdd,Q0,Z0,Q6,Q7,Z2,Zdh,Zdt,Zdx,Zdz,Zep,decide_false,Q5,Q1,Q2,if_true,Nat.reduceAdd,Nat.reduceLeDiff,Int.reduceNeg,eq_self,cond_false,aload,acells,getArr,part,Z3,Q8,Q9,Z6,Q0,hb1,h3,e1,List.any_nil]
 | succ d ih =>
  intro i m h1 h2
  obtain ⟨m, rfl⟩ : ∃ q, m = q + 1 := ⟨m - 1, by omega⟩
  have h3 : i < x.right.length := by omega
  have h3' : (i : Int) < x.right.length := by omega
  have e1 : x.right.drop i = x.right[i] :: x.right.drop (i + 1) := List.drop_eq_getElem_cons h3
  have hw := w64s (n := i) (by omega)
  rw [e1, List.any_cons]
  cases hs : isSym g x.right[i]
  case false =>
   have hbad : badSym g x.right[i] = true := by simp [badSym, hs]
   simp only [loop_e,EB_r15_rule_0,Zaa,Zab,Zac,Zad,Zae,Zag,Zai,Zaj,Zak,Zam,Zao,Zar,Zaw,Zay,Zaz,Zbd,Zbg,Zbi,Zbj,Zbk,Zbl,Zbo,Zbq,Zbr,Zby,Zcb,Zcg,Zcp,Zcq,Zcv,Zcw,Zcx,Zcz,Zda,Zdb,Zdc,Zdd,Q0,Z0,Q6,Q7,Z2,Zdh,Zdr,Zdt,Zdx,Zdz,Zea,Zep,decide_true,Y5,Q5,Q1,Q2,if_true,Nat.reduceAdd,Nat.reduceLeDiff,Int.reduceNeg,eq_self,cond_true,aload,acells,getArr,part,eI,Z3,Q8,Q9,Z6,Z8,Q3,Q4,Q0,hb,hb1,h3',ix_eIs _ _ x.right _ i h3,t1,hs,hbad,Y6]
  case true =>
  by_cases q0 : x.right[i] = 0
  case pos =>
   have hbad : badSym g x.right[i] = true := by simp [badSym, q0]
   rw [hbad]
   rw [q0] at hs
   simp only [loop_e,EB_r15_rule_0,Zaa,Zab,Zac,Zad,Zae,Zag,Zai,Zaj,Zak,Zam,Zao,Zar,Zaw,Zay,Zaz,Zbc,Zbd,Zbg,Zbh,Zbi,Zbj,Zbk,Zbl,Zbo,Zbq,Zbr,Zby,Zcb,Zcg,Zcp,Zcq,Zcv,Zcw,Zcx,Zcz,Zda,Zdb,Zdc,Zdd,Q0,Z0,Q6,Q7,Z2,Zdh,Zdl,Zdr,Zdt,Zdx,Zdz,Zea,Zep,decide_true,Y4,Q5,Q1,Q2,if_true,Nat.reduceAdd,Nat.reduceLeDiff,Int.reduceNeg,eq_self,cond_true,aload,acells,getArr,part,eI,Z3,Q8,Q9,Z6,Z8,Q3,Q4,Q0,hb,hb1,h3',ix_eIs _ _ x.right _ i h3,t1,q0,hs,Y6]
  case neg =>
  by_cases q1 : x.right[i] = 1
  case pos =>
   have hbad : badSym g x.right[i] = true := by simp [badSym, q1]
   rw [hbad]
   rw [q1] at hs
   simp only [loop_e,EB_r15_rule_0,Zaa,Zab,Zac,Zad,Zae,Zag,Zai,Zaj,Zak,Zam,Zao,Zar,Zaw,Zay,Zaz,Zbc,Zbd,Zbg,Zbh,Zbi,Zbj,Zbk,Zbl,Zbo,Zbq,Zbr,Zby,Zcb,Zcg,Zcp,Zcq,Zcv,Zcw,Zcx,Zcz,Zda,Zdb,Zdc,Zdd,Q0,Z0,Q6,Q7,Z2,Zdh,Zdl,Zdr,Zdt,Zdx,Zdz,Zea,Zep,decide_true,decide_false,Y4,Q5,Q1,Q2,if_true,Nat.reduceAdd,Nat.reduceLeDiff,Int.reduceNeg,Int.reduceEq,eq_self,cond_true,aload,acells,getArr,part,eI,Z3,Q8,Q9,Z6,Z8,Q3,Q4,Q0,hb,hb1,h3',ix_eIs _ _ x.right _ i h3,t1,q1,hs,Y6]
  case neg =>
  by_cases q2 : x.right[i] = -1
  case pos =>
   have hbad : badSym g x.right[i] = true := by simp [badSym, q2]
   rw [hbad]
   rw [q2] at hs
   simp only [loop_e,EB_r15_rule_0,Zaa,Zab,Zac,Zad,Zae,Zag,Zai,Zaj,Zak,Zam,Zao,Zar,Zaw,Zay,Zaz,Zbc,Zbh,Zbi,Zbj,Zbk,Zbl,Zbo,Zbq,Zbr,Zby,Zcb,Zcg,Zcp,Zcq,Zcv,Zcw,Zcx,Zcz,Zda,Zdb,Zdc,Zdd,Q0,Z0,Q6,Q7,Z2,Zdh,Zdl,Zdr,Zdt,Zdx,Zdz,Zea,Zep,decide_true,decide_false,Y4,Q5,Q1,Q2,if_true,Nat.reduceAdd,Nat.reduceLeDiff,Int.reduceNeg,Int.reduceEq,eq_self,cond_true,aload,acells,getArr,part,eI,Z3,Q8,Q9,Z6,Z8,Q3,Q4,Q0,hb,hb1,h3',ix_eIs _ _ x.right _ i h3,t1,q2,hs,Y6]
  case neg =>
   have hbad : badSym g x.right[i] = false := by simp [badSym, hs]; omega
   simp only [loop_e,EB_r15_rule_0,Zaa,Zab,Zac,Zad,Zae,Zag,Zaj,Zak,Zan,Zar,Zas,Zau,Zay,Zaz,Zbc,Zbh,Zbi,Zbj,Zbk,Zbl,Zbo,Zbq,Zbr,Zby,Zcb,Zcg,Zcp,Zcq,Zcv,Zcw,Zcx,Zcz,Zda,Zdb,Zdc,Zdd,Q0,Z0,Q6,Q7,Z2,Zde,Zdh,Zdl,Zdr,Zdt,Zdx,Zdz,Zea,Zep,decide_true,decide_false,Y4,Q5,Q1,Q2,if_true,Nat.reduceAdd,Nat.reduceLeDiff,Int.reduceNeg,eq_self,aload,acells,getArr,part,eI,Z3,Q8,Q9,Z6,Z8,Q3,Q4,Q0,hb,hb1,h3',ix_eIs _ _ x.right _ i h3,t1,hs,q0,q1,q2,hbad,hw,ih (i + 1) m (by omega) (by omega),Bool.false_or]
def aheadOf (g : GramD) : Nat → Int
 | 0 => 0
 | i + 1 => match g.rules[i]? with | some r => r.left | none => 0
theorem r_rule (g : GramD) (hg : g.Ok) (i : Nat) (hi : i < g.rules.length) (H : AHeap) : lim G0.cfg (.func 65) [.agg (eGram g), .int .i64 i] H = some (.int .i64 (ruleErr g g.rules[i] (aheadOf g i)), H) := by
 refine lim_flat rfl rfl P_r15_rule ((g.rules[i]).right.length + 1) (fun h => fz_2 (fz_gram g h) rfl) ?_ (fun _ => rfl) H
 have hm := hg.rules
 rw [maxLen_eq] at hm
 obtain ⟨x, hx⟩ : ∃ x, x = g.rules[i] := ⟨_, rfl⟩
 have hxo : x.Ok := by rw [hx]; exact hg.rule _ (List.getElem_mem hi)
 have ii := ix_map eRule (sz := 5) (e := false) (l := g.rules) (k := .i64) (j := i) (hj := hi) (hs := rfl)
 rw [← hx] at ii ⊢
 have e := r_rule_loop g hg x hxo (x.right.length + 1) [.arr 0 5 true [eGram g], .arr 0 5 true [eRule x]] rfl rfl x.right.length 0 (x.right.length + 1) (by omega) (by omega)
 rw [Z3, z0] at e
 rw [R_r15_rule]
 by_cases q1 : x.left < 0
 case pos =>
  have hE : ruleErr g x (aheadOf g i) = 22 := if_pos (by omega)
  simp only [Zab,Zac,Zad,Zai,Zaj,Zak,Zam,Zar,Zay,Zaz,Zba,Zbd,Zbf,Zbg,Zbi,Zbj,Zbk,Zbl,Zbm,Zbn,Zbo,Zbp,Zbq,Zby,Zcb,Zcs,Zcu,Zcv,Zcw,Zcx,Zcy,Q0,Z0,Q6,Q7,Z2,Z9,Zdh,Zdx,Zdz,Zea,Zeb,decide_true,Q5,Z1,Q1,Q2,if_true,Nat.reduceAdd,Nat.reduceSub,Nat.reduceLeDiff,eq_self,and_self,true_and,Q1,Q2,Z4,Z5,Q3,Q4,aload,acells,getArr,part,astore,putCells,Y0,Y3,cellOk,Y1,Z3,Q8,Q9,Z6,Z8,Q3,Q4,Q0,ii,hE,q1,resAll,resVals,resVal,Z7,Prod.mk.injEq,true_and,exists_eq']
 case neg =>
 by_cases q2 : (g.nonterms.length : Int) ≤ x.left
 case pos =>
  have hE : ruleErr g x (aheadOf g i) = 22 := if_pos (by omega)
  simp only [Zab,Zac,Zad,Zai,Zaj,Zak,Zam,Zar,Zay,Zaz,Zba,Zbc,Zbd,Zbf,Zbg,Zbh,Zbi,Zbj,Zbk,Zbl,Zbm,Zbn,Zbo,Zbp,Zbq,Zby,Zcb,Zcg,Zcs,Zcu,Zcv,Zcw,Zcx,Zcy,Q0,Z0,Q6,Q7,Z2,Z9,Zdh,Zdk,Zdt,Zdx,Zdz,Zea,Zeb,Zeq,decide_true,decide_false,Q5,Z1,Q1,Q2,if_true,Nat.reduceAdd,Nat.reduceSub,Nat.reduceLeDiff,eq_self,and_self,true_and,Q1,Q2,Z4,Z5,Q3,Q4,aload,acells,getArr,part,astore,putCells,Y0,Y3,cellOk,Y1,Z3,Q8,Q9,Z6,Z8,Q3,Q4,Q0,ii,hE,q1,q2,resAll,resVals,resVal,Z7,Prod.mk.injEq,true_and,exists_eq']
 case neg =>
 -- the left side ahead
 have ha : (∃ i', i = i' + 1 ∧ ∃ h' : i' < g.rules.length, aheadOf g i = (g.rules[i']).left) ∨ (i = 0 ∧ aheadOf g i = 0) := by
  cases i with
  | zero => exact .inr ⟨rfl, rfl⟩
  | succ i' => exact .inl ⟨i', rfl, by omega, by simp [aheadOf, show i' < g.rules.length by omega]⟩
 have fin4 : ¬ (x.left < aheadOf g i) → (∀ R : List (AOper), True) → ∀ (P : Prop), ((¬ (32 : Int) < x.right.length → P) → ((32 : Int) < x.right.length → P) → P) := fun _ _ P a b => by
  by_cases q : (32 : Int) < x.right.length
  ·exact b q
  ·exact a q
 have hE5 : ¬ (x.left < aheadOf g i) → ¬ ((32 : Int) < x.right.length) → ruleErr g x (aheadOf g i) = if x.right.any (badSym g) = true then 21
  else if (x.fields.length : Int) ≠ 0 ∧ (x.fields.length : Int) ≠ x.right.length then 25
  else if x.level < 0 ∨ (g.levels.length : Int) < x.level then 24
  else 0 := fun h1 h2 => if_neg (by omega)
 generalize hah : aheadOf g i = ah at *
 rcases ha with ⟨i', hi', h', hai⟩ | ⟨hi0, hai⟩
 case inl =>
  have p1 : (0 : Int) < i := by omega
  have hwi : IntKind.i64.wrap ((i : Int) - 1) = (i' : Int) := by rw [w64 (by omega) (by omega)]; omega
  have ii' := ix_map eRule (sz := 5) (e := false) (l := g.rules) (k := .i64) (j := i') (hj := h') (hs := rfl)
  have hal : (g.rules[i']).left = ah := hai.symm
  by_cases q3 : x.left < ah
  case pos =>
   have hE : ruleErr g x ah = 22 := if_pos (by omega)
   simp only [Zab,Zac,Zad,Zai,Zaj,Zak,Zam,Zar,Zay,Zaz,Zba,Zbb,Zbc,Zbd,Zbg,Zbh,Zbi,Zbj,Zbk,Zbl,Zbm,Zbn,Zbo,Zbp,Zbq,Zby,Zcb,Zcg,Zcs,Zcu,Zcv,Zcw,Zcx,Zcy,Q0,Z0,Q6,Q7,Z2,Z9,Zdf,Zdh,Zdj,Zdk,Zdt,Zdx,Zdy,Zdz,Zea,Zeb,Zeq,decide_true,decide_false,Q5,Z1,Q1,Q2,if_true,Nat.reduceAdd,Nat.reduceSub,Nat.reduceLeDiff,eq_self,and_self,true_and,Q1,Q2,Z4,Z5,Q3,Q4,aload,acells,getArr,part,astore,putCells,Y0,Y3,cellOk,Y1,Z3,Q8,Q9,Z6,Z8,Q3,Q4,Q0,ii,ii',hwi,p1,hal,hE,q1,q2,q3,resAll,resVals,resVal,Z7,Prod.mk.injEq,true_and,exists_eq']
  case neg =>
  by_cases q4 : (32 : Int) < x.right.length
  case pos =>
   have hE : ruleErr g x ah = 22 := if_pos (by omega)
   simp only [Zab,Zac,Zad,Zai,Zaj,Zak,Zam,Zar,Zay,Zaz,Zba,Zbb,Zbc,Zbg,Zbh,Zbi,Zbj,Zbk,Zbl,Zbm,Zbn,Zbo,Zbp,Zbq,Zby,Zcb,Zcg,Zcs,Zcu,Zcv,Zcw,Zcx,Zcy,Q0,Z0,Q6,Q7,Z2,Z9,Zdf,Zdh,Zdj,Zdk,Zdt,Zdx,Zdy,Zdz,Zea,Zeb,Zep,Zeq,decide_true,decide_false,Q5,Z1,Q1,Q2,if_true,Nat.reduceAdd,Nat.reduceSub,Nat.reduceLeDiff,eq_self,and_self,true_and,Q1,Q2,Z4,Z5,Q3,Q4,aload,acells,getArr,part,astore,putCells,Y0,Y3,cellOk,Y1,Z3,Q8,Q9,Z6,Z8,Q3,Q4,Q0,ii,ii',hwi,p1,hal,hE,q1,q2,q3,q4,resAll,resVals,resVal,Z7,Prod.mk.injEq,true_and,exists_eq']
  case neg =>
  rw [hE5 q3 q4]
  cases q5 : x.right.any (badSym g)
  case true =>
   rw [q5] at e
   simp only [cond_true] at e
   simp only [Zaa,Zab,Zac,Zad,Zae,Zaf,Zag,Zaj,Zak,Zam,Zao,Zas,Zat,Zay,Zaz,Zba,Zbb,Zbc,Zbg,Zbh,Zbi,Zbj,Zbk,Zbl,Zbm,Zbn,Zbo,Zbp,Zbq,Zby,Zcb,Zcg,Zcs,Zcu,Zcv,Zcw,Zcx,Zcy,Zdb,Zdc,Zdd,Q0,Z0,Q6,Q7,Z2,Z9,Zdf,Zdh,Zdj,Zdk,Zdt,Zdx,Zdy,Zdz,Zea,Zeb,Zep,Zeq,decide_true,decide_false,Q5,Z1,Q1,Q2,if_true,Nat.reduceAdd,Nat.reduceSub,Nat.reduceLeDiff,eq_self,and_self,true_and,Q1,Q2,Z4,Z5,Q3,Q4,aload,acells,getArr,part,astore,putCells,Y0,Y3,cellOk,Y1,Z3,Q8,Q9,Z6,Z8,Q3,Q4,Q0,ii,ii',hwi,p1,hal,q1,q2,q3,q4,e,resAll,resVals,resVal,Z7,Prod.mk.injEq,true_and,exists_eq']
  case false =>
  rw [q5] at e
  simp only [cond_false] at e
  simp only [Bool.false_eq_true,if_false]
  by_cases q6 : (x.fields.length : Int) = 0
  case pos =>
   rw [if_neg (by omega)]
   by_cases q8 : x.level < 0
   case pos =>
    rw [if_pos (.inl q8)]
    simp only [Zaa,Zab,Zac,Zad,Zae,Zaf,Zag,Zai,Zaj,Zak,Zam,Zap,Zar,Zas,Zat,Zay,Zaz,Zba,Zbb,Zbc,Zbd,Zbe,Zbg,Zbh,Zbi,Zbj,Zbk,Zbl,Zbm,Zbn,Zbo,Zbp,Zbq,Zby,Zcb,Zcg,Zcs,Zcu,Zcv,Zcw,Zcx,Zcy,Zdb,Zdc,Zdd,Q0,Z0,Q6,Q7,Z2,Z9,Zdf,Zdh,Zdj,Zdk,Zdm,Zdt,Zdx,Zdy,Zdz,Zea,Zeb,Zep,Zeq,decide_true,decide_false,Y4,Q5,Z1,Q1,Q2,if_true,Nat.reduceAdd,Nat.reduceSub,Nat.reduceLeDiff,eq_self,and_self,true_and,Q1,Q2,Z4,Z5,Q3,Q4,aload,acells,getArr,part,astore,putCells,Y0,Y3,cellOk,Y1,Z3,Q8,Q9,Z6,Z8,Q3,Q4,Q0,ii,ii',hwi,p1,hal,q1,q2,q3,q4,e,q6,q8,resAll,resVals,resVal,Z7,Prod.mk.injEq,true_and,exists_eq']
   case neg =>
   by_cases q9 : (g.levels.length : Int) < x.level
   case pos =>
    rw [if_pos (.inr q9)]
    simp only [Zaa,Zab,Zac,Zad,Zae,Zaf,Zag,Zai,Zaj,Zak,Zam,Zap,Zar,Zas,Zat,Zay,Zaz,Zba,Zbb,Zbc,Zbe,Zbg,Zbh,Zbi,Zbj,Zbk,Zbl,Zbm,Zbn,Zbo,Zbp,Zbq,Zby,Zcb,Zcg,Zcs,Zcu,Zcv,Zcw,Zcx,Zcy,Zdb,Zdc,Zdd,Q0,Z0,Q6,Q7,Z2,Z9,Zdf,Zdh,Zdj,Zdk,Zdm,Zdt,Zdx,Zdy,Zdz,Zea,Zeb,Zep,Zeq,decide_true,decide_false,Y4,Q5,Z1,Q1,Q2,if_true,Nat.reduceAdd,Nat.reduceSub,Nat.reduceLeDiff,eq_self,and_self,true_and,Y2,Q1,Q2,Z4,Z5,Q3,Q4,aload,acells,getArr,part,astore,putCells,Y0,Y3,cellOk,Y1,Z3,Q8,Q9,Z6,Z8,Q3,Q4,Q0,Y2,ii,ii',hwi,p1,hal,q1,q2,q3,q4,e,q6,q8,q9,resAll,resVals,resVal,Z7,Prod.mk.injEq,true_and,exists_eq']
   case neg =>
    rw [if_neg (by omega)]
    simp only [Zaa,Zab,Zac,Zad,Zae,Zaf,Zag,Zai,Zaj,Zak,Zap,Zas,Zat,Zay,Zaz,Zba,Zbb,Zbc,Zbe,Zbg,Zbh,Zbi,Zbj,Zbk,Zbl,Zbm,Zbn,Zbo,Zbp,Zbq,Zby,Zcb,Zcg,Zcs,Zcu,Zcv,Zcw,Zcx,Zcy,Zdb,Zdc,Zdd,Q0,Z0,Q6,Q7,Z2,Z9,Zdf,Zdh,Zdj,Zdk,Zdm,Zdt,Zdx,Zdy,Zdz,Zea,Zeb,Zep,Zeq,decide_true,decide_false,Y4,Q5,Z1,Q1,Q2,if_true,Nat.reduceAdd,Nat.reduceSub,Nat.reduceLeDiff,eq_self,and_self,true_and,Y2,Q1,Q2,Z4,Z5,Q3,Q4,aload,acells,getArr,part,astore,putCells,Y0,Y3,cellOk,Y1,Z3,Q8,Q9,Z6,Z8,Q3,Q4,Q0,Y2,ii,ii',hwi,p1,hal,q1,q2,q3,q4,e,q6,q8,q9,resAll,resVals,resVal,Z7,Prod.mk.injEq,true_and,exists_eq']
  case neg =>
  by_cases q7 : (x.fields.length : Int) = x.right.length
  case neg =>
   rw [if_pos ⟨q6, q7⟩]
   simp only [Zaa,Zab,Zac,Zad,Zae,Zaf,Zag,Zai,Zaj,Zak,Zam,Zap,Zar,Zas,Zat,Zay,Zaz,Zba,Zbb,Zbc,Zbg,Zbh,Zbi,Zbj,Zbk,Zbl,Zbm,Zbn,Zbo,Zbp,Zbq,Zby,Zcb,Zcg,Zcs,Zcu,Zcv,Zcw,Zcx,Zcy,Zdb,Zdc,Zdd,Q0,Z0,Q6,Q7,Z2,Z9,Zdf,Zdh,Zdj,Zdk,Zdm,Zdt,Zdx,Zdy,Zdz,Zea,Zeb,Zep,Zeq,decide_true,decide_false,Y5,Q5,Z1,Q1,Q2,if_true,Nat.reduceAdd,Nat.reduceSub,Nat.reduceLeDiff,eq_self,and_self,true_and,Q1,Q2,Z4,Z5,Q3,Q4,aload,acells,getArr,part,astore,putCells,Y0,Y3,cellOk,Y1,Z3,Q8,Q9,Z6,Z8,Q3,Q4,Q0,ii,ii',hwi,p1,hal,q1,q2,q3,q4,e,q6,q7,resAll,resVals,resVal,Z7,Prod.mk.injEq,true_and,exists_eq']
  case pos =>
   have q6' : ¬ (x.right.length : Int) = 0 := by omega
   rw [if_neg (by omega)]
   by_cases q8 : x.level < 0
   case pos =>
    rw [if_pos (.inl q8)]
    simp only [Zaa,Zab,Zac,Zad,Zae,Zaf,Zag,Zai,Zaj,Zak,Zam,Zap,Zar,Zas,Zat,Zay,Zaz,Zba,Zbb,Zbc,Zbd,Zbg,Zbh,Zbi,Zbj,Zbk,Zbl,Zbm,Zbn,Zbo,Zbp,Zbq,Zby,Zcb,Zcg,Zcs,Zcu,Zcv,Zcw,Zcx,Zcy,Zdb,Zdc,Zdd,Q0,Z0,Q6,Q7,Z2,Z9,Zdf,Zdh,Zdj,Zdk,Zdm,Zdt,Zdx,Zdy,Zdz,Zea,Zeb,Zep,Zeq,decide_true,decide_false,Y4,Y5,Q5,Z1,Q1,Q2,if_true,Nat.reduceAdd,Nat.reduceSub,Nat.reduceLeDiff,eq_self,and_self,true_and,Q1,Q2,Z4,Z5,Q3,Q4,aload,acells,getArr,part,astore,putCells,Y0,Y3,cellOk,Y1,Z3,Q8,Q9,Z6,Z8,Q3,Q4,Q0,ii,ii',hwi,p1,hal,q1,q2,q3,q4,e,q6',q7,q8,resAll,resVals,resVal,Z7,Prod.mk.injEq,true_and,exists_eq']
   case neg =>
   by_cases q9 : (g.levels.length : Int) < x.level
   case pos =>
    rw [if_pos (.inr q9)]
    simp only [Zaa,Zab,Zac,Zad,Zae,Zaf,Zag,Zai,Zaj,Zak,Zam,Zap,Zar,Zas,Zat,Zay,Zaz,Zba,Zbb,Zbc,Zbg,Zbh,Zbi,Zbj,Zbk,Zbl,Zbm,Zbn,Zbo,Zbp,Zbq,Zby,Zcb,Zcg,Zcs,Zcu,Zcv,Zcw,Zcx,Zcy,Zdb,Zdc,Zdd,Q0,Z0,Q6,Q7,Z2,Z9,Zdf,Zdh,Zdj,Zdk,Zdm,Zdt,Zdx,Zdy,Zdz,Zea,Zeb,Zep,Zeq,decide_true,decide_false,Y4,Y5,Q5,Z1,Q1,Q2,if_true,Nat.reduceAdd,Nat.reduceSub,Nat.reduceLeDiff,eq_self,and_self,true_and,Y2,Q1,Q2,Z4,Z5,Q3,Q4,aload,acells,getArr,part,astore,putCells,Y0,Y3,cellOk,Y1,Z3,Q8,Q9,Z6,Z8,Q3,Q4,Q0,Y2,ii,ii',hwi,p1,hal,q1,q2,q3,q4,e,q6',q7,q8,q9,resAll,resVals,resVal,Z7,Prod.mk.injEq,true_and,exists_eq']
   case neg =>
    rw [if_neg (by omega)]
    simp only [Zaa,Zab,Zac,Zad,Zae,Zaf,Zag,Zai,Zaj,Zak,Zap,Zas,Zat,Zay,Zaz,Zba,Zbb,Zbc,Zbg,Zbh,Zbi,Zbj,Zbk,Zbl,Zbm,Zbn,Zbo,Zbp,Zbq,Zby,Zcb,Zcg,Zcs,Zcu,Zcv,Zcw,Zcx,Zcy,Zdb,Zdc,Zdd,Q0,Z0,Q6,Q7,Z2,Z9,Zdf,Zdh,Zdj,Zdk,Zdm,Zdt,Zdx,Zdy,Zdz,Zea,Zeb,Zep,Zeq,decide_true,decide_false,Y4,Y5,Q5,Z1,Q1,Q2,if_true,Nat.reduceAdd,Nat.reduceSub,Nat.reduceLeDiff,eq_self,and_self,true_and,Y2,Q1,Q2,Z4,Z5,Q3,Q4,aload,acells,getArr,part,astore,putCells,Y0,Y3,cellOk,Y1,Z3,Q8,Q9,Z6,Z8,Q3,Q4,Q0,Y2,ii,ii',hwi,p1,hal,q1,q2,q3,q4,e,q6',q7,q8,q9,resAll,resVals,resVal,Z7,Prod.mk.injEq,true_and,exists_eq']
 case inr =>
  have p1 : ¬ ((0 : Int) < i) := by omega
  have q3 : ¬ (x.left < ah) := by omega
  by_cases q4 : (32 : Int) < x.right.length
  case pos =>
   have hE : ruleErr g x ah = 22 := if_pos (by omega)
   simp only [Zab,Zac,Zad,Zai,Zaj,Zak,Zam,Zar,Zay,Zaz,Zba,Zbc,Zbe,Zbh,Zbi,Zbj,Zbk,Zbl,Zbm,Zbn,Zbo,Zbp,Zbq,Zby,Zcb,Zcg,Zcs,Zcu,Zcv,Zcw,Zcx,Zcy,Q0,Z0,Q6,Q7,Z2,Z9,Zdh,Zdj,Zdk,Zdt,Zdx,Zdz,Zea,Zeb,Zep,Zeq,decide_true,decide_false,Q5,Z1,Q1,Q2,if_true,Nat.reduceAdd,Nat.reduceSub,Nat.reduceLeDiff,eq_self,and_self,true_and,Q1,Q2,Z4,Z5,Q3,Q4,aload,acells,getArr,part,astore,putCells,Y0,Y3,cellOk,Y1,Z3,Q8,Q9,Z6,Z8,Q3,Q4,Q0,ii,p1,hE,q1,q2,q4,resAll,resVals,resVal,Z7,Prod.mk.injEq,true_and,exists_eq']
  case neg =>
  rw [hE5 q3 q4]
  cases q5 : x.right.any (badSym g)
  case true =>
   rw [q5] at e
   simp only [cond_true] at e
   simp only [Zaa,Zab,Zac,Zad,Zae,Zaf,Zag,Zaj,Zak,Zam,Zao,Zas,Zat,Zay,Zaz,Zba,Zbc,Zbe,Zbh,Zbi,Zbj,Zbk,Zbl,Zbm,Zbn,Zbo,Zbp,Zbq,Zby,Zcb,Zcg,Zcs,Zcu,Zcv,Zcw,Zcx,Zcy,Zdb,Zdc,Zdd,Q0,Z0,Q6,Q7,Z2,Z9,Zdh,Zdj,Zdk,Zdt,Zdx,Zdz,Zea,Zeb,Zep,Zeq,decide_false,Q5,Z1,Q1,Q2,if_true,Nat.reduceAdd,Nat.reduceSub,Nat.reduceLeDiff,eq_self,and_self,true_and,Q1,Q2,Z4,Z5,Q3,Q4,aload,acells,getArr,part,astore,putCells,Y0,Y3,cellOk,Y1,Z3,Q8,Q9,Z6,Z8,Q3,Q4,Q0,ii,p1,q1,q2,q4,e,resAll,resVals,resVal,Z7,Prod.mk.injEq,true_and,exists_eq']
  case false =>
  rw [q5] at e
  simp only [cond_false] at e
  simp only [Bool.false_eq_true,if_false]
  by_cases q6 : (x.fields.length : Int) = 0
  case pos =>
   rw [if_neg (by omega)]
   by_cases q8 : x.level < 0
   case pos =>
    rw [if_pos (.inl q8)]
    simp only [Zaa,Zab,Zac,Zad,Zae,Zaf,Zag,Zai,Zaj,Zak,Zam,Zap,Zar,Zas,Zat,Zay,Zaz,Zba,Zbc,Zbd,Zbe,Zbg,Zbh,Zbi,Zbj,Zbk,Zbl,Zbm,Zbn,Zbo,Zbp,Zbq,Zby,Zcb,Zcg,Zcs,Zcu,Zcv,Zcw,Zcx,Zcy,Zdb,Zdc,Zdd,Q0,Z0,Q6,Q7,Z2,Z9,Zdh,Zdj,Zdk,Zdm,Zdt,Zdx,Zdz,Zea,Zeb,Zep,Zeq,decide_true,decide_false,Y4,Q5,Z1,Q1,Q2,if_true,Nat.reduceAdd,Nat.reduceSub,Nat.reduceLeDiff,eq_self,and_self,true_and,Q1,Q2,Z4,Z5,Q3,Q4,aload,acells,getArr,part,astore,putCells,Y0,Y3,cellOk,Y1,Z3,Q8,Q9,Z6,Z8,Q3,Q4,Q0,ii,p1,q1,q2,q4,e,q6,q8,resAll,resVals,resVal,Z7,Prod.mk.injEq,true_and,exists_eq']
   case neg =>
   by_cases q9 : (g.levels.length : Int) < x.level
   case pos =>
    rw [if_pos (.inr q9)]
    simp only [Zaa,Zab,Zac,Zad,Zae,Zaf,Zag,Zai,Zaj,Zak,Zam,Zap,Zar,Zas,Zat,Zay,Zaz,Zba,Zbc,Zbe,Zbh,Zbi,Zbj,Zbk,Zbl,Zbm,Zbn,Zbo,Zbp,Zbq,Zby,Zcb,Zcg,Zcs,Zcu,Zcv,Zcw,Zcx,Zcy,Zdb,Zdc,Zdd,Q0,Z0,Q6,Q7,Z2,Z9,Zdh,Zdj,Zdk,Zdm,Zdt,Zdx,Zdz,Zea,Zeb,Zep,Zeq,decide_true,decide_false,Y4,Q5,Z1,Q1,Q2,if_true,Nat.reduceAdd,Nat.reduceSub,Nat.reduceLeDiff,eq_self,and_self,true_and,Y2,Q1,Q2,Z4,Z5,Q3,Q4,aload,acells,getArr,part,astore,putCells,Y0,Y3,cellOk,Y1,Z3,Q8,Q9,Z6,Z8,Q3,Q4,Q0,Y2,ii,p1,q1,q2,q4,e,q6,q8,q9,resAll,resVals,resVal,Z7,Prod.mk.injEq,true_and,exists_eq']
   case neg =>
    rw [if_neg (by omega)]
    simp only [Zaa,Zab,Zac,Zad,Zae,Zaf,Zag,Zai,Zaj,Zak,Zap,Zas,Zat,Zay,Zaz,Zba,Zbc,Zbe,Zbh,Zbi,Zbj,Zbk,Zbl,Zbm,Zbn,Zbo,Zbp,Zbq,Zby,Zcb,Zcg,Zcs,Zcu,Zcv,Zcw,Zcx,Zcy,Zdb,Zdc,Zdd,Q0,Z0,Q6,Q7,Z2,Z9,Zdh,Zdj,Zdk,Zdm,Zdt,Zdx,Zdz,Zea,Zeb,Zep,Zeq,decide_true,decide_false,Y4,Q5,Z1,Q1,Q2,if_true,Nat.reduceAdd,Nat.reduceSub,Nat.reduceLeDiff,eq_self,and_self,true_and,Y2,Q1,Q2,Z4,Z5,Q3,Q4,aload,acells,getArr,part,astore,putCells,Y0,Y3,cellOk,Y1,Z3,Q8,Q9,Z6,Z8,Q3,Q4,Q0,Y2,ii,p1,q1,q2,q4,e,q6,q8,q9,resAll,resVals,resVal,Z7,Prod.mk.injEq,true_and,exists_eq']
  case neg =>
  by_cases q7 : (x.fields.length : Int) = x.right.length
  case neg =>
   rw [if_pos ⟨q6, q7⟩]
   simp only [Zaa,Zab,Zac,Zad,Zae,Zaf,Zag,Zai,Zaj,Zak,Zam,Zap,Zar,Zas,Zat,Zay,Zaz,Zba,Zbb,Zbc,Zbe,Zbg,Zbh,Zbi,Zbj,Zbk,Zbl,Zbm,Zbn,Zbo,Zbp,Zbq,Zby,Zcb,Zcg,Zcs,Zcu,Zcv,Zcw,Zcx,Zcy,Zdb,Zdc,Zdd,Q0,Z0,Q6,Q7,Z2,Z9,Zdh,Zdj,Zdk,Zdm,Zdt,Zdx,Zdz,Zea,Zeb,Zep,Zeq,decide_false,Y5,Q5,Z1,Q1,Q2,if_true,Nat.reduceAdd,Nat.reduceSub,Nat.reduceLeDiff,eq_self,and_self,true_and,Q1,Q2,Z4,Z5,Q3,Q4,aload,acells,getArr,part,astore,putCells,Y0,Y3,cellOk,Y1,Z3,Q8,Q9,Z6,Z8,Q3,Q4,Q0,ii,p1,q1,q2,q4,e,q6,q7,resAll,resVals,resVal,Z7,Prod.mk.injEq,true_and,exists_eq']
  case pos =>
   have q6' : ¬ (x.right.length : Int) = 0 := by omega
   rw [if_neg (by omega)]
   by_cases q8 : x.level < 0
   case pos =>
    rw [if_pos (.inl q8)]
    simp only [Zaa,Zab,Zac,Zad,Zae,Zaf,Zag,Zai,Zaj,Zak,Zam,Zap,Zar,Zas,Zat,Zay,Zaz,Zba,Zbb,Zbc,Zbd,Zbe,Zbg,Zbh,Zbi,Zbj,Zbk,Zbl,Zbm,Zbn,Zbo,Zbp,Zbq,Zby,Zcb,Zcg,Zcs,Zcu,Zcv,Zcw,Zcx,Zcy,Zdb,Zdc,Zdd,Q0,Z0,Q6,Q7,Z2,Z9,Zdh,Zdj,Zdk,Zdm,Zdt,Zdx,Zdz,Zea,Zeb,Zep,Zeq,decide_true,decide_false,Y4,Y5,Q5,Z1,Q1,Q2,if_true,Nat.reduceAdd,Nat.reduceSub,Nat.reduceLeDiff,eq_self,and_self,true_and,Q1,Q2,Z4,Z5,Q3,Q4,aload,acells,getArr,part,astore,putCells,Y0,Y3,cellOk,Y1,Z3,Q8,Q9,Z6,Z8,Q3,Q4,Q0,ii,p1,q1,q2,q4,e,q6',q7,q8,resAll,resVals,resVal,Z7,Prod.mk.injEq,true_and,exists_eq']
   case neg =>
   by_cases q9 : (g.levels.length : Int) < x.level
   case pos =>
    rw [if_pos (.inr q9)]
    simp only [Zaa,Zab,Zac,Zad,Zae,Zaf,Zag,Zai,Zaj,Zak,Zam,Zap,Zar,Zas,Zat,Zay,Zaz,Zba,Zbb,Zbc,Zbe,Zbg,Zbh,Zbi,Zbj,Zbk,Zbl,Zbm,Zbn,Zbo,Zbp,Zbq,Zby,Zcb,Zcg,Zcs,Zcu,Zcv,Zcw,Zcx,Zcy,Zdb,Zdc,Zdd,Q0,Z0,Q6,Q7,Z2,Z9,Zdh,Zdj,Zdk,Zdm,Zdt,Zdx,Zdz,Zea,Zeb,Zep,Zeq,decide_true,decide_false,Y4,Y5,Q5,Z1,Q1,Q2,if_true,Nat.reduceAdd,Nat.reduceSub,Nat.reduceLeDiff,eq_self,and_self,true_and,Y2,Q1,Q2,Z4,Z5,Q3,Q4,aload,acells,getArr,part,astore,putCells,Y0,Y3,cellOk,Y1,Z3,Q8,Q9,Z6,Z8,Q3,Q4,Q0,Y2,ii,p1,q1,q2,q4,e,q6',q7,q8,q9,resAll,resVals,resVal,Z7,Prod.mk.injEq,true_and,exists_eq']
   case neg =>
    rw [if_neg (by omega)]
    simp only [Zaa,Zab,Zac,Zad,Zae,Zaf,Zag,Zai,Zaj,Zak,Zap,Zas,Zat,Zay,Zaz,Zba,Zbb,Zbc,Zbe,Zbg,Zbh,Zbi,Zbj,Zbk,Zbl,Zbm,Zbn,Zbo,Zbp,Zbq,Zby,Zcb,Zcg,Zcs,Zcu,Zcv,Zcw,Zcx,Zcy,Zdb,Zdc,Zdd,Q0,Z0,Q6,Q7,Z2,Z9,Zdh,Zdj,Zdk,Zdm,Zdt,Zdx,Zdz,Zea,Zeb,Zep,Zeq,decide_true,decide_false,Y4,Y5,Q5,Z1,Q1,Q2,if_true,Nat.reduceAdd,Nat.reduceSub,Nat.reduceLeDiff,eq_self,and_self,true_and,Y2,Q1,Q2,Z4,Z5,Q3,Q4,aload,acells,getArr,part,astore,putCells,Y0,Y3,cellOk,Y1,Z3,Q8,Q9,Z6,Z8,Q3,Q4,Q0,Y2,ii,p1,q1,q2,q4,e,q6',q7,q8,q9,resAll,resVals,resVal,Z7,Prod.mk.injEq,true_and,exists_eq']
end Go.Proofs.Ytkimloceaihplaa.Ai
namespace Go.Proofs.Ytkimloceaihplaa.Ai
open Go Go.Proofs
open AV renaming junk → J
open List renaming set_cons_zero → Q0, getElem?_cons_zero → Q1, length_cons → Q2, length_nil → Q3, getD_cons_zero → Q4, getD_cons_succ → Q5, take_succ_cons → Q6, cons_append → Q7, set_cons_succ → Q8, nil_append → Q9, drop_zero → Z1, drop_succ_cons → Z2, take_zero → Z3, take_nil → Z4, length_map → Z5, replicate_succ → Z6, replicate_zero → Z7, drop_eq_getElem_cons → Y2, all_cons → Y4, drop_eq_nil_iff → Y6, all_nil → Y7
open Option renaming bind_some → Z0, map_some → Z9
open Option.some renaming injEq → Z8
open Bool renaming true_eq_false → Y0, not_true → Y1, false_eq_true → Y3, and_self → Y5, not_false → Y8
set_option linter.unusedVariables false
set_option linter.unusedSimpArgs false
set_option maxRecDepth 10000
set_option maxHeartbeats 4000000
theorem ix_h {h : AHeap} {sz i v o n : Nat} {c : Option Nat} {k : IntKind} {j : Nat} {x : Bool} {l : List (List AV)} (hg : h[i]? = some (.arr v sz x l)) (hj : j < n) : aindexAddr h sz (.hsl i v o n c) (.int k j) = some (.ptr i v (o + j) 0) := by
 simp [aindexAddr, getArr, hg, hj]
def rowB (T : Nat) (seen : List Int) : List (List AV) := (List.range T).map fun (t : Nat) => [.bool (decide ((t : Int) ∈ seen))]
theorem rowB_get {T : Nat} {seen : List Int} {t : Nat} (h : t < T) : (rowB T seen)[0 + t]? = some [.bool (decide ((t : Int) ∈ seen))] := by
 simp [rowB, h]
theorem rowB_set {T : Nat} {seen : List Int} {t : Nat} (h : t < T) : (rowB T seen).set (0 + t) [.bool true] = rowB T ((t : Int) :: seen) := by
 apply List.ext_getElem?
 intro j
 rw [Nat.zero_add, List.getElem?_set]
 by_cases e : t = j
 ·subst e
  simp [rowB, h]
 ·by_cases hj : j < T
  ·have : ¬ (j : Int) = t := by omega
   simp [rowB, e, hj, this]
  ·simp [rowB, e, hj]
theorem rowB_nil (T : Nat) : List.replicate T [AV.bool false] = rowB T [] := by
 apply List.ext_getElem?
 intro j
 by_cases hj : j < T <;> simp [rowB, hj]
theorem r_levels_loop1 (g : GramD) (hg : g.Ok) (n : Nat) (x : LevelD) (hx : x.terms.length ≤ maxLen) (i4 : Nat) (i5 : Nat) (hi5 : i5 ≠ 0 ∧ i5 ≠ 1) : ∀ (d i m : Nat) (seen : List Int) (h : AHeap), x.terms.length = i + d → d < m →
  h[0]? = some (.arr 0 5 true [eGram g]) → h[1]? = some (.arr 0 1 true (rowB g.terms.length seen)) → h[i5]? = some (.arr 0 2 true [eLevel x]) →
  match termsGo g.terms.length (x.terms.drop i) seen with
  | some s' => ∃ h', h'[0]? = some (.arr 0 5 true [eGram g]) ∧ h'[1]? = some (.arr 0 1 true (rowB g.terms.length s')) ∧
   loopN (evalCode (lim G0.cfg) n B_r15_levels_1) m ⟨(J::.ptr 0 0 0 0::J::.hsl 1 0 0 g.terms.length none :: .int .i64 i4 :: .ptr i5 0 0 0 :: .int .i64 i::J::J::J::J::J::J::J::J::J::J::J::J::J::J::J::J::J::J::J::J::J::J::J::J::J::J::J::J::J::J::J::J::J::J::J::J::J::J::J::J::J::J::J::J::J::J::J::J::J::J::J::J::J::J::J::[]), h⟩ = some (.exit 2, ⟨(J::.ptr 0 0 0 0::J::.hsl 1 0 0 g.terms.length none :: .int .i64 i4::J::J::J::J::J::J::J::J::J::J::J::J::J::J::J::J::J::J::J::J::J::J::J::J::J::J::J::J::J::J::J::J::J::J::J::J::J::J::J::J::J::J::J::J::J::J::J::J::J::J::J::J::J::J::J::J::J::[]), h'⟩)
  | none => ∃ h', loopN (evalCode (lim G0.cfg) n B_r15_levels_1) m ⟨(J::.ptr 0 0 0 0::J::.hsl 1 0 0 g.terms.length none :: .int .i64 i4 :: .ptr i5 0 0 0 :: .int .i64 i::J::J::J::J::J::J::J::J::J::J::J::J::J::J::J::J::J::J::J::J::J::J::J::J::J::J::J::J::J::J::J::J::J::J::J::J::J::J::J::J::J::J::J::J::J::J::J::J::J::J::J::J::J::J::J::[]), h⟩ = some (.ret, ⟨(J::J::.bool false::J::J::J::J::J::J::J::J::J::J::J::J::J::J::J::J::J::J::J::J::J::J::J::J::J::J::J::J::J::J::J::J::J::J::J::J::J::J::J::J::J::J::J::J::J::J::J::J::J::J::J::J::J::J::J::J::J::J::J::[]), h'⟩) := by
 rw [maxLen_eq] at hx
 intro d
 induction d with
 | zero =>
  intro i m seen h h1 h2 hb hr hl
  obtain ⟨m, rfl⟩ : ∃ q, m = q + 1 := ⟨m - 1, by omega⟩
  have e1 : x.terms.drop i = [] := Y6.2 (by omega)
  have h3 : ¬ ((i : Int) < x.terms.length) := by omega
  rw [e1]
  exact ⟨h, hb, hr, by simp only [loop_e,EB_r15_levels_1,Zab,Zac,Zad,Zag,Zah,Zaj,Zak,Zal,Zas,Zav,Zay,Zbi,Zbk,Zbo,Zbq,Zby,Zcg,Zcv,Zcx,Zdb,Zdc,Zdd,Q0,Q8,Q4,Q5,Z0,Zdh,Zdt,Zdx,Zdz,Zep,decide_false,Q1,Q2,Q3,if_true,Nat.reduceAdd,Nat.reduceLeDiff,eq_self,aload,acells,getArr,part,Z1,Z2,Q6,Z4,Q0,hl,h3]⟩
 | succ d ih =>
  intro i m seen h h1 h2 hb hr hl
  obtain ⟨m, rfl⟩ : ∃ q, m = q + 1 := ⟨m - 1, by omega⟩
  have h3 : i < x.terms.length := by omega
  have h3' : (i : Int) < x.terms.length := by omega
  have e1 : x.terms.drop i = x.terms[i] :: x.terms.drop (i + 1) := Y2 h3
  have hw := w64s (n := i) (by omega)
  have ii := fun h => ix_eIs h false x.terms .i64 i h3
  rw [e1]
  simp only [termsGo]
  generalize x.terms[i] = t at *
  by_cases q1 : t < 2
  case pos =>
   rw [if_pos (.inl q1)]
   exact ⟨h, by simp only [loop_e,EB_r15_levels_1,Zaa,Zab,Zac,Zad,Zae,Zag,Zai,Zaj,Zak,Zam,Zao,Zar,Zaw,Zay,Zbd,Zbg,Zbi,Zbj,Zbk,Zbl,Zbo,Zbq,Zby,Zcb,Zcg,Zcv,Zcw,Zcx,Zdb,Zdc,Zdd,Q0,Q8,Q4,Q5,Z0,Zdh,Zdt,Zdx,Zdz,Zep,decide_true,Q1,Q2,Q3,if_true,Nat.reduceAdd,Nat.reduceLeDiff,eq_self,aload,acells,getArr,part,eI,Z1,Z2,Q6,Z4,Q0,hl,h3',ii,q1]⟩
  case neg =>
  by_cases q2 : (g.terms.length : Int) ≤ t
  case pos =>
   rw [if_pos (.inr (.inl q2))]
   exact ⟨h, by simp only [loop_e,EB_r15_levels_1,Zaa,Zab,Zac,Zad,Zae,Zag,Zai,Zaj,Zak,Zam,Zao,Zar,Zaw,Zay,Zbc,Zbd,Zbg,Zbh,Zbi,Zbj,Zbk,Zbl,Zbo,Zbq,Zby,Zcb,Zcg,Zcv,Zcw,Zcx,Zdb,Zdc,Zdd,Q0,Q8,Q4,Q5,Z0,Zdh,Zdk,Zdt,Zdx,Zdz,Zep,Zeq,decide_true,decide_false,Q1,Q2,Q3,if_true,Nat.reduceAdd,Nat.reduceLeDiff,eq_self,aload,acells,getArr,part,eI,Z1,Z2,Q6,Z3,Z4,Q0,hb,hl,h3',ii,q1,q2]⟩
  case neg =>
  obtain ⟨k, rfl⟩ : ∃ k : Nat, t = k := ⟨t.toNat, by omega⟩
  have hk : k < g.terms.length := by omega
  have ir := ix_h (c := none) (k := .i64) (o := 0) hr hk
  have rg := rowB_get (seen := seen) hk
  by_cases q3 : (k : Int) ∈ seen
  case pos =>
   rw [if_pos (.inr (.inr q3))]
   exact ⟨h, by simp only [loop_e,EB_r15_levels_1,Zaa,Zab,Zac,Zad,Zae,Zag,Zai,Zaj,Zak,Zam,Zao,Zar,Zaw,Zay,Zbc,Zbh,Zbi,Zbj,Zbk,Zbl,Zbo,Zbq,Zby,Zcb,Zcg,Zcv,Zcw,Zcx,Zdb,Zdc,Zdd,Q0,Q8,Q4,Q5,Z0,Zdh,Zdk,Zdt,Zdx,Zdz,Zep,Zeq,decide_true,decide_false,Q1,Q2,Q3,if_true,Nat.reduceAdd,Nat.reduceLeDiff,eq_self,aload,acells,getArr,part,eI,Z1,Z2,Q6,Z3,Z4,Q0,hb,hr,hl,h3',ii,q1,q2,ir,rg,q3]⟩
  case neg =>
  rw [if_neg (by rintro (h | h | h); exact q1 h; exact q2 h; exact q3 h)]
  have rs := rowB_set (seen := seen) hk
  have := ih (i + 1) m ((k : Int) :: seen) (h.set 1 (.arr 0 1 true (rowB g.terms.length ((k : Int) :: seen)))) (by omega) (by omega)
   (by rw [List.getElem?_set_ne (by omega)]; exact hb) (List.getElem?_set_self (List.getElem?_eq_some_iff.1 hr).1) (by rw [List.getElem?_set_ne (fun e => hi5.2 e.symm)]; exact hl)
  have hstep : loopN (evalCode (lim G0.cfg) n B_r15_levels_1) (m + 1) ⟨(J::.ptr 0 0 0 0::J::.hsl 1 0 0 g.terms.length none :: .int .i64 i4 :: .ptr i5 0 0 0 :: .int .i64 i::J::J::J::J::J::J::J::J::J::J::J::J::J::J::J::J::J::J::J::J::J::J::J::J::J::J::J::J::J::J::J::J::J::J::J::J::J::J::J::J::J::J::J::J::J::J::J::J::J::J::J::J::J::J::J::[]), h⟩ =
    loopN (evalCode (lim G0.cfg) n B_r15_levels_1) m ⟨(J::.ptr 0 0 0 0::J::.hsl 1 0 0 g.terms.length none :: .int .i64 i4 :: .ptr i5 0 0 0 :: .int .i64 ((i + 1 : Nat) : Int)::J::J::J::J::J::J::J::J::J::J::J::J::J::J::J::J::J::J::J::J::J::J::J::J::J::J::J::J::J::J::J::J::J::J::J::J::J::J::J::J::J::J::J::J::J::J::J::J::J::J::J::J::J::J::J::[]), h.set 1 (.arr 0 1 true (rowB g.terms.length ((k : Int) :: seen)))⟩ := by
   simp only [loop_e,EB_r15_levels_1,Zaa,Zab,Zac,Zad,Zae,Zag,Zaj,Zak,Zan,Zar,Zas,Zau,Zay,Zba,Zbc,Zbh,Zbi,Zbj,Zbk,Zbl,Zbo,Zbp,Zbq,Zby,Zcb,Zcg,Zcv,Zcw,Zcx,Zcy,Zdb,Zdc,Zdd,Q0,Q8,Q4,Q5,Z0,Zde,Zdh,Zdk,Zdt,Zdx,Zdz,Zed,Zep,Zeq,decide_true,decide_false,Q1,Q2,Q3,if_true,Nat.reduceAdd,Nat.reduceLeDiff,eq_self,and_self,aload,acells,getArr,part,eI,astore,putCells,Y4,Y7,cellOk,Y5,Z1,Z2,Q6,Z3,Z4,Q7,Q9,Q0,hb,hr,hl,h3',ii,q1,q2,ir,rg,rs,q3,hw,Q0]
  simp only [hstep]
  exact this
theorem r_levels_loop0 (g : GramD) (hg : g.Ok) (n : Nat) (hn : ∀ l ∈ g.levels, l.terms.length < n) : ∀ (d i m : Nat) (seen : List Int) (h : AHeap), g.levels.length = i + d → d < m →
  h[0]? = some (.arr 0 5 true [eGram g]) → h[1]? = some (.arr 0 1 true (rowB g.terms.length seen)) →
  ∃ h', loopN (evalCode (lim G0.cfg) n B_r15_levels_0) m ⟨(J::.ptr 0 0 0 0::J::.hsl 1 0 0 g.terms.length none :: .int .i64 i::J::J::J::J::J::J::J::J::J::J::J::J::J::J::J::J::J::J::J::J::J::J::J::J::J::J::J::J::J::J::J::J::J::J::J::J::J::J::J::J::J::J::J::J::J::J::J::J::J::J::J::J::J::J::J::J::J::[]), h⟩ =
   bif levelsGo g.terms.length (g.levels.drop i) seen then some (.exit 0, ⟨(J::J::J::J::J::J::J::J::J::J::J::J::J::J::J::J::J::J::J::J::J::J::J::J::J::J::J::J::J::J::J::J::J::J::J::J::J::J::J::J::J::J::J::J::J::J::J::J::J::J::J::J::J::J::J::J::J::J::J::J::J::J::[]), h'⟩) else some (.ret, ⟨(J::J::.bool false::J::J::J::J::J::J::J::J::J::J::J::J::J::J::J::J::J::J::J::J::J::J::J::J::J::J::J::J::J::J::J::J::J::J::J::J::J::J::J::J::J::J::J::J::J::J::J::J::J::J::J::J::J::J::J::J::J::J::J::[]), h'⟩) := by
 have hm := hg.levels
 rw [maxLen_eq] at hm
 intro d
 induction d with
 | zero =>
  intro i m seen h h1 h2 hb hr
  obtain ⟨m, rfl⟩ : ∃ q, m = q + 1 := ⟨m - 1, by omega⟩
  have e1 : g.levels.drop i = [] := Y6.2 (by omega)
  have h3 : ¬ ((i : Int) < g.levels.length) := by omega
  exact ⟨h, by simp only [loop_e,EB_r15_levels_0,Zab,Zac,Zad,Zag,Zah,Zaj,Zak,Zal,Zas,Zav,Zay,Zbi,Zbk,Zbo,Zbq,Zby,Zcg,Zcv,Zcx,Zdc,Zdd,Q0,Q8,Q4,Q5,Z0,Zdh,Zdt,Zdx,Zdz,decide_false,Q1,Q2,Q3,if_true,Nat.reduceAdd,Nat.reduceLeDiff,eq_self,cond_true,Z5,aload,acells,getArr,part,Z1,Z2,Q6,Z4,Q0,Z5,hb,h3,e1,levelsGo]⟩
 | succ d ih =>
  intro i m seen h h1 h2 hb hr
  obtain ⟨m, rfl⟩ : ∃ q, m = q + 1 := ⟨m - 1, by omega⟩
  have h3 : i < g.levels.length := by omega
  have h3' : (i : Int) < g.levels.length := by omega
  have e1 : g.levels.drop i = g.levels[i] :: g.levels.drop (i + 1) := Y2 h3
  have hw := w64s (n := i) (by omega)
  have hmem : g.levels[i] ∈ g.levels := List.getElem_mem h3
  have hb2 := get_app hb [.arr 0 2 true [eLevel g.levels[i]]]
  have hr2 := get_app hr [.arr 0 2 true [eLevel g.levels[i]]]
  have ii := fun h => ix_map eLevel h 2 false g.levels .i64 i h3 rfl
  have hlen : h.length ≠ 0 ∧ h.length ≠ 1 := by have := (List.getElem?_eq_some_iff.1 hr).1; omega
  rw [e1]
  simp only [levelsGo]
  by_cases q1 : (g.levels[i]).assoc < 1
  case pos =>
   rw [if_pos (.inl q1)]
   exact ⟨h ++ [.arr 0 2 true [eLevel g.levels[i]]], by simp only [loop_e,EB_r15_levels_0,Zaa,Zab,Zac,Zad,Zae,Zag,Zai,Zaj,Zak,Zam,Zao,Zar,Zaw,Zay,Zba,Zbd,Zbg,Zbi,Zbj,Zbk,Zbl,Zbm,Zbo,Zbp,Zbq,Zby,Zcb,Zcg,Zcv,Zcw,Zcx,Zcy,Zdb,Zdc,Zdd,Q0,Q8,Q4,Q5,Z0,Zdh,Zdt,Zdx,Zdz,Zea,Zeb,decide_true,Q1,Q2,Q3,if_true,Nat.reduceAdd,Nat.reduceLeDiff,eq_self,and_self,cond_false,Z5,aload,acells,getArr,part,astore,putCells,get_new,set_new,Y4,Y7,cellOk,Y5,Z1,Z2,Q6,Z3,Z4,Q7,Q9,Q0,Z5,hb,h3',ii,q1]⟩
  case neg =>
  by_cases q2 : 4 < (g.levels[i]).assoc
  case pos =>
   rw [if_pos (.inr q2)]
   exact ⟨h ++ [.arr 0 2 true [eLevel g.levels[i]]], by simp only [loop_e,EB_r15_levels_0,Zaa,Zab,Zac,Zad,Zae,Zag,Zai,Zaj,Zak,Zam,Zao,Zar,Zaw,Zay,Zba,Zbc,Zbh,Zbi,Zbj,Zbk,Zbl,Zbm,Zbo,Zbp,Zbq,Zby,Zcb,Zcg,Zcv,Zcw,Zcx,Zcy,Zdb,Zdc,Zdd,Q0,Q8,Q4,Q5,Z0,Zdh,Zdj,Zdt,Zdx,Zdz,Zea,Zeb,decide_true,decide_false,Q1,Q2,Q3,if_true,Nat.reduceAdd,Nat.reduceLeDiff,eq_self,and_self,cond_false,Z5,aload,acells,getArr,part,astore,putCells,get_new,set_new,Y4,Y7,cellOk,Y5,Z1,Z2,Q6,Z3,Z4,Q7,Q9,Q0,Z5,hb,h3',ii,q1,q2]⟩
  case neg =>
  rw [if_neg (by omega)]
  have inner := r_levels_loop1 g hg n g.levels[i] (hg.level _ hmem) i h.length hlen (g.levels[i]).terms.length 0 n seen _ (by omega) (hn _ hmem) hb2 hr2 (get_new h _)
  rw [Z1, z0] at inner
  cases hq : termsGo g.terms.length (g.levels[i]).terms seen with
  | none =>
   rw [hq] at inner
   obtain ⟨h', e⟩ := inner
   refine ⟨h', ?_⟩
   simp only [loop_e,EB_r15_levels_0,Zaa,Zab,Zac,Zad,Zae,Zaf,Zag,Zaj,Zak,Zam,Zao,Zar,Zas,Zat,Zaw,Zay,Zba,Zbc,Zbh,Zbi,Zbj,Zbk,Zbl,Zbm,Zbo,Zbp,Zbq,Zby,Zcb,Zcg,Zcv,Zcw,Zcx,Zcy,Zdb,Zdc,Zdd,Q0,Q8,Q4,Q5,Z0,Zdh,Zdj,Zdt,Zdx,Zdz,Zea,Zeb,decide_true,decide_false,Q1,Q2,Q3,if_true,Nat.reduceAdd,Nat.reduceLeDiff,eq_self,and_self,cond_false,Z5,aload,acells,getArr,part,astore,putCells,get_new,set_new,Y4,Y7,cellOk,Y5,Z1,Z2,Q6,Z3,Z4,Q7,Q9,Q0,Z5,hb,h3',ii,q1,q2,e]
  | some s' =>
   rw [hq] at inner
   obtain ⟨h', hb', hr', e⟩ := inner
   obtain ⟨h'', e'⟩ := ih (i + 1) m s' h' (by omega) (by omega) hb' hr'
   refine ⟨h'', ?_⟩
   simp only [loop_e,EB_r15_levels_0,Zaa,Zab,Zac,Zad,Zae,Zaf,Zag,Zaj,Zak,Zan,Zap,Zar,Zas,Zat,Zau,Zay,Zba,Zbc,Zbh,Zbi,Zbj,Zbk,Zbl,Zbm,Zbo,Zbp,Zbq,Zby,Zcb,Zcg,Zcv,Zcw,Zcx,Zcy,Zdb,Zdc,Zdd,Q0,Q8,Q4,Q5,Z0,Zde,Zdh,Zdj,Zdt,Zdx,Zdz,Zea,Zeb,decide_true,decide_false,Q1,Q2,Q3,if_true,Nat.reduceAdd,Nat.reduceLeDiff,eq_self,and_self,Z5,aload,acells,getArr,part,astore,putCells,get_new,set_new,Y4,Y7,cellOk,Y5,Z1,Z2,Q6,Z3,Z4,Q7,Q9,Q0,Z5,hb,h3',ii,q1,q2,e,hw,e']
theorem r_levels (g : GramD) (hg : g.Ok) (hT : (g.terms.length : Int) ≤ 256) (H : AHeap) : lim G0.cfg (.func 66) [.agg (eGram g)] H = some (.bool (levelsGo g.terms.length g.levels []), H) := by
 refine lim_flat rfl rfl P_r15_levels (g.levels.length + sizeT g.levels + 1) (fun h => fz_1 (fz_gram g h)) ?_ (fun _ => rfl) H
 obtain ⟨N, hN⟩ : ∃ N, N = g.levels.length + sizeT g.levels + 1 := ⟨_, rfl⟩
 rw [← hN]
 have hmk : amk [.arr 0 5 true [eGram g]] 1 1 [.bool false] (.int .i64 g.terms.length) (.int .i64 g.terms.length) = some (.hsl 1 0 0 g.terms.length none, [.arr 0 5 true [eGram g], .arr 0 1 true (rowB g.terms.length [])]) := by
  have : (0 : Int) ≤ g.terms.length ∧ (g.terms.length : Int) ≤ g.terms.length ∧ (g.terms.length : Int) * ((1 : Nat) + 1) ≤ 70368744177664 := by omega
  rw [amk, if_pos this, ← rowB_nil]; rfl
 obtain ⟨h', e⟩ := r_levels_loop0 g hg N (fun l hl => by have := sizeT_le g.levels l hl; omega) g.levels.length 0 N [] [.arr 0 5 true [eGram g], .arr 0 1 true (rowB g.terms.length [])] (by omega) (by omega) rfl rfl
 rw [Z1, z0] at e
 rw [R_r15_levels]
 cases q : levelsGo g.terms.length g.levels []
 ·rw [q] at e
  simp only [cond_false] at e
  simp only [Zab,Zac,Zae,Zaf,Zag,Zaj,Zak,Zam,Zao,Zat,Zay,Zaz,Zbi,Zbk,Zbn,Zbo,Zbv,Zby,Zcg,Zcs,Zcu,Zcv,Zcw,Zcx,Zdb,Zdc,Zdd,Q0,Q8,Q4,Q5,Z0,Z9,Zdt,Zdx,Zdz,Zeb,Zeq,Q1,Q2,Q3,if_true,Nat.reduceAdd,Nat.reduceSub,Nat.reduceLeDiff,eq_self,true_and,Q2,Q3,Z6,Z7,Q7,Q9,aload,acells,getArr,part,Z1,Q6,Z3,Q7,Q9,Q0,hmk,e,resAll,resVals,resVal,Z8,Prod.mk.injEq,true_and,exists_eq']
 ·rw [q] at e
  simp only [cond_true] at e
  simp only [Zab,Zac,Zae,Zaf,Zag,Zai,Zaj,Zak,Zap,Zat,Zay,Zaz,Zbi,Zbk,Zbn,Zbo,Zbv,Zby,Zcg,Zcs,Zcu,Zcv,Zcw,Zcx,Zdb,Zdc,Zdd,Q0,Q8,Q4,Q5,Z0,Z9,Zdt,Zdx,Zdz,Zeb,Zeq,Q1,Q2,Q3,if_true,Nat.reduceAdd,Nat.reduceSub,Nat.reduceLeDiff,eq_self,true_and,Q2,Q3,Z6,Z7,Q7,Q9,aload,acells,getArr,part,Z1,Q6,Z3,Q7,Q9,Q0,hmk,e,resAll,resVals,resVal,Z8,Prod.mk.injEq,true_and,exists_eq']
theorem aheadOf_succ (g : GramD) (i : Nat) (hi : i < g.rules.length) : aheadOf g (i + 1) = (g.rules[i]).left := by simp [aheadOf, hi]
theorem r_right_loop (g : GramD) (hg : g.Ok) (n : Nat) (h : AHeap) (hb : h[0]? = some (.arr 0 5 true [eGram g])) : ∀ (d i m : Nat), g.rules.length = i + d → d < m →
  loopN (evalCode (lim G0.cfg) n B_r15_Right_0) m ⟨[J, .ptr 0 0 0 0, J, .int .i64 i, J,J,J,J,J,J,J,J,J,J,J,J,J,J,J,J,J,J,J,J,J,J,J,J,J,J,J,J,J], h⟩ =
   if rulesErr g (g.rules.drop i) (aheadOf g i) = 0 then some (.exit 0, ⟨[J, .ptr 0 0 0 0, J,J,J,J,J,J,J,J,J,J,J,J,J,J,J,J,J,J,J,J,J,J,J,J,J,J,J,J,J,J,J], h⟩) else some (.ret, ⟨[J,J, .int .i64 (rulesErr g (g.rules.drop i) (aheadOf g i)), J,J,J,J,J,J,J,J,J,J,J,J,J,J,J,J,J,J,J,J,J,J,J,J,J,J,J,J,J,J], h⟩) := by
 have hm := hg.rules
 rw [maxLen_eq] at hm
 intro d
 induction d with
 | zero =>
  intro i m h1 h2
  obtain ⟨m, rfl⟩ : ∃ q, m = q + 1 := ⟨m - 1, by omega⟩
  have e1 : g.rules.drop i = [] := Y6.2 (by omega)
  have h3 : ¬ ((i : Int) < g.rules.length) := by omega
  simp only [loop_e,EB_r15_Right_0,Zab,Zac,Zad,Zag,Zah,Zaj,Zak,Zal,Zas,Zav,Zay,Zbi,Zbk,Zbo,Zbq,Zby,Zcg,Zcv,Zcx,Zdb,Zdc,Zdd,Q0,Q8,Q4,Q5,Z0,Zdh,Zdt,Zdx,Zdz,decide_false,Q1,Q2,Q3,if_true,Nat.reduceAdd,Nat.reduceLeDiff,eq_self,Z5,aload,acells,getArr,part,Z1,Z2,Q6,Z3,Q0,Z5,hb,h3,e1,rulesErr]
 | succ d ih =>
  intro i m h1 h2
  obtain ⟨m, rfl⟩ : ∃ q, m = q + 1 := ⟨m - 1, by omega⟩
  have h3 : i < g.rules.length := by omega
  have h3' : (i : Int) < g.rules.length := by omega
  have e1 : g.rules.drop i = g.rules[i] :: g.rules.drop (i + 1) := Y2 h3
  have hw := w64s (n := i) (by omega)
  have hr := r_rule g hg i h3
  by_cases q : ruleErr g g.rules[i] (aheadOf g i) = 0
  ·have e := ih (i + 1) m (by omega) (by omega)
   rw [aheadOf_succ g i h3] at e
   have e2 : rulesErr g (g.rules.drop i) (aheadOf g i) = rulesErr g (g.rules.drop (i + 1)) (g.rules[i]).left := by rw [e1]; simp [rulesErr, q]
   rw [e2, ← e]
   simp only [loop_e,EB_r15_Right_0,Zaa,Zab,Zac,Zad,Zae,Zag,Zaj,Zak,Zan,Zar,Zas,Zau,Zay,Zaz,Zbi,Zbk,Zbo,Zbq,Zby,Zcg,Zcp,Zcq,Zcv,Zcw,Zcx,Zcz,Zda,Zdb,Zdc,Zdd,Q0,Q8,Q4,Q5,Z0,Zde,Zdh,Zdm,Zdt,Zdx,Zdz,Zea,decide_true,Y1,Q1,Q2,Q3,if_true,Nat.reduceAdd,Nat.reduceLeDiff,eq_self,Z5,aload,acells,getArr,part,Z1,Z2,Q6,Z3,Z4,Q7,Q9,Q0,Z5,hb,h3',hr,q,hw]
  ·have e2 : rulesErr g (g.rules.drop i) (aheadOf g i) = ruleErr g g.rules[i] (aheadOf g i) := by rw [e1]; simp [rulesErr, q]
   rw [e2, if_neg q]
   simp only [loop_e,EB_r15_Right_0,Zaa,Zab,Zac,Zad,Zae,Zag,Zai,Zaj,Zak,Zam,Zao,Zar,Zaw,Zay,Zaz,Zbi,Zbk,Zbo,Zbq,Zby,Zcg,Zcp,Zcq,Zcv,Zcw,Zcx,Zcz,Zda,Zdb,Zdc,Zdd,Q0,Q8,Q4,Q5,Z0,Zdh,Zdm,Zdt,Zdx,Zdz,Zea,decide_true,decide_false,Y8,Q1,Q2,Q3,if_true,Nat.reduceAdd,Nat.reduceLeDiff,eq_self,Z5,aload,acells,getArr,part,Z1,Z2,Q6,Z3,Z4,Q7,Q9,Q0,Z5,hb,h3',hr,q]
theorem r_Right (g : GramD) (hg : g.Ok) (H : AHeap) : lim G0.cfg (.func 31) [.agg (eGram g)] H = some (.int .i64 (gramErr g), H) := by
 refine lim_flat rfl rfl P_r15_Right (g.rules.length + 1) (fun h => fz_1 (fz_gram g h)) ?_ (fun _ => rfl) H
 have c1 := r_counts g hg
 have c2 := r_twice g.terms hg.terms
 have c3 := r_twice g.nonterms hg.nonterms
 rw [R_r15_Right]
 unfold gramErr
 cases q1 : countsOk g
 case false =>
  rw [q1] at c1
  simp only [Zab,Zac,Zad,Zai,Zaj,Zak,Zam,Zar,Zay,Zaz,Zbi,Zbk,Zbn,Zbo,Zcp,Zcq,Zcs,Zcu,Zcv,Zcw,Zcx,Zcz,Zda,Q0,Q8,Q4,Q5,Z0,Z9,Zea,Zeb,Y8,Q1,Q2,Q3,if_true,Nat.reduceAdd,Nat.reduceSub,Nat.reduceLeDiff,eq_self,true_and,Q2,Q3,Z6,Z7,Q7,Q9,aload,acells,getArr,part,Z1,Q6,Z4,Q7,Q9,Q0,c1,resAll,resVals,resVal,Z8,Prod.mk.injEq,true_and,exists_eq']
 case true =>
 rw [q1] at c1
 cases q2 : twiceB g.terms
 case true =>
  rw [q2] at c2
  simp only [Zaa,Zab,Zac,Zad,Zai,Zaj,Zak,Zam,Zar,Zas,Zay,Zaz,Zbd,Zbg,Zbi,Zbj,Zbk,Zbl,Zbn,Zbo,Zby,Zcp,Zcq,Zcs,Zcu,Zcv,Zcw,Zcx,Zcz,Zda,Q0,Q8,Q4,Q5,Z0,Z9,Zdx,Zdz,Zea,Zeb,Y1,Q1,Q2,Q3,if_true,if_false,Nat.reduceAdd,Nat.reduceSub,Nat.reduceLeDiff,eq_self,true_and,Q2,Q3,Z6,Z7,Q7,Q9,aload,acells,getArr,part,Z1,Q6,Z3,Z4,Q7,Q9,Q0,c1,c2,resAll,resVals,resVal,Z8,Prod.mk.injEq,true_and,exists_eq',Y0,true_or]
 case false =>
 rw [q2] at c2
 cases q3 : twiceB g.nonterms
 case true =>
  rw [q3] at c3
  simp only [Zaa,Zab,Zac,Zad,Zai,Zaj,Zak,Zam,Zar,Zas,Zay,Zaz,Zbc,Zbh,Zbi,Zbj,Zbk,Zbl,Zbn,Zbo,Zby,Zcp,Zcq,Zcs,Zcu,Zcv,Zcw,Zcx,Zcz,Zda,Q0,Q8,Q4,Q5,Z0,Z9,Zdx,Zdz,Zea,Zeb,Y1,Q1,Q2,Q3,if_true,if_false,Nat.reduceAdd,Nat.reduceSub,Nat.reduceLeDiff,eq_self,true_and,Q2,Q3,Z6,Z7,Q7,Q9,aload,acells,getArr,part,Z1,Z2,Q6,Z3,Z4,Q7,Q9,Q0,c1,c2,c3,resAll,resVals,resVal,Z8,Prod.mk.injEq,true_and,exists_eq',Y0,or_true]
 case false =>
 rw [q3] at c3
 have hne : g.rules ≠ [] := by
  intro e
  simp [countsOk, e] at q1
 have hT : (g.terms.length : Int) ≤ 256 := by
  simp only [countsOk,Bool.and_eq_true,decide_eq_true_eq] at q1
  omega
 have c4 := r_start g hg hne
 cases q4 : startOk g
 case false =>
  rw [q4] at c4
  simp only [Zaa,Zab,Zac,Zad,Zai,Zaj,Zak,Zam,Zar,Zas,Zay,Zaz,Zbc,Zbh,Zbi,Zbj,Zbk,Zbl,Zbn,Zbo,Zby,Zcp,Zcq,Zcs,Zcu,Zcv,Zcw,Zcx,Zcz,Zda,Q0,Q8,Q4,Q5,Z0,Z9,Zdx,Zdz,Zea,Zeb,Y1,Y8,Q1,Q2,Q3,if_true,if_false,Nat.reduceAdd,Nat.reduceSub,Nat.reduceLeDiff,eq_self,true_and,Q2,Q3,Z6,Z7,Q7,Q9,aload,acells,getArr,part,Z1,Z2,Q6,Z3,Z4,Q7,Q9,Q0,c1,c2,c3,c4,resAll,resVals,resVal,Z8,Prod.mk.injEq,true_and,exists_eq',Y0,Y3,or_self]
 case true =>
 rw [q4] at c4
 have e := r_right_loop g hg (g.rules.length + 1) [.arr 0 5 true [eGram g]] rfl g.rules.length 0 (g.rules.length + 1) (by omega) (by omega)
 have ea : aheadOf g 0 = 0 := rfl
 rw [Z1, z0, ea] at e
 by_cases q5 : rulesErr g g.rules 0 = 0
 case neg =>
  rw [if_neg q5] at e
  simp only [Zaa,Zab,Zac,Zad,Zae,Zaf,Zag,Zaj,Zak,Zam,Zao,Zas,Zat,Zay,Zaz,Zbc,Zbh,Zbi,Zbj,Zbk,Zbl,Zbn,Zbo,Zby,Zcp,Zcq,Zcs,Zcu,Zcv,Zcw,Zcx,Zcz,Zda,Zdb,Zdc,Zdd,Q0,Q8,Q4,Q5,Z0,Z9,Zdx,Zdz,Zea,Zeb,Y1,Q1,Q2,Q3,if_true,if_false,Nat.reduceAdd,Nat.reduceSub,Nat.reduceLeDiff,eq_self,true_and,not_false_eq_true,Q2,Q3,Z6,Z7,Q7,Q9,aload,acells,getArr,part,Z1,Z2,Q6,Z3,Z4,Q7,Q9,Q0,c1,c2,c3,c4,e,q5,ne_eq,not_false_eq_true,resAll,resVals,resVal,Z8,Prod.mk.injEq,true_and,exists_eq',Y0,Y3,or_self]
 case pos =>
 rw [if_pos q5] at e
 have c6 := r_levels g hg hT
 cases q6 : levelsGo g.terms.length g.levels []
 case false =>
  rw [q6] at c6
  simp only [Zaa,Zab,Zac,Zad,Zae,Zaf,Zag,Zai,Zaj,Zak,Zam,Zap,Zar,Zas,Zat,Zay,Zaz,Zbc,Zbh,Zbi,Zbj,Zbk,Zbl,Zbn,Zbo,Zbr,Zby,Zcp,Zcq,Zcs,Zcu,Zcv,Zcw,Zcx,Zcz,Zda,Zdb,Zdc,Zdd,Q0,Q8,Q4,Q5,Z0,Z9,Zdr,Zdx,Zdz,Zea,Zeb,Y1,Y8,Q1,Q2,Q3,if_true,if_false,Nat.reduceAdd,Nat.reduceSub,Nat.reduceLeDiff,eq_self,true_and,not_true_eq_false,Q2,Q3,Z6,Z7,Q7,Q9,aload,acells,getArr,part,Z1,Z2,Q6,Z3,Z4,Q7,Q9,Q0,c1,c2,c3,c4,e,q5,c6,ne_eq,resAll,resVals,resVal,Z8,Prod.mk.injEq,true_and,exists_eq',Y0,Y3,or_self]
 case true =>
  rw [q6] at c6
  simp only [Zaa,Zab,Zac,Zad,Zae,Zaf,Zag,Zai,Zaj,Zak,Zap,Zas,Zat,Zay,Zaz,Zbc,Zbh,Zbi,Zbj,Zbk,Zbl,Zbn,Zbo,Zbr,Zby,Zcp,Zcq,Zcs,Zcu,Zcv,Zcw,Zcx,Zcz,Zda,Zdb,Zdc,Zdd,Q0,Q8,Q4,Q5,Z0,Z9,Zdr,Zdx,Zdz,Zea,Zeb,Y1,Q1,Q2,Q3,if_true,if_false,Nat.reduceAdd,Nat.reduceSub,Nat.reduceLeDiff,eq_self,true_and,not_true_eq_false,Q2,Q3,Z6,Z7,Q7,Q9,aload,acells,getArr,part,Z1,Z2,Q6,Z3,Z4,Q7,Q9,Q0,c1,c2,c3,c4,e,q5,c6,ne_eq,resAll,resVals,resVal,Z8,Prod.mk.injEq,true_and,exists_eq',Y0,Y3,or_self]
end Go.Proofs.Ytkimloceaihplaa.Ai
