/- Grammars: the program's checks, walked. -/
import Derived.Test.YtkimloceaihplaapGrI
import Derived.Test.YtkimloceaihplaapMp1
namespace Go.Proofs.Ytkimloceaihplaa.Ai
open Go Go.Proofs
set_option linter.unusedVariables false
set_option linter.unusedSimpArgs false
set_option maxRecDepth 10000


theorem f_within (n lo hi : Int) (H : AHeap) : lim G0.cfg (.func 71) [.int .i64 n, .int .i64 lo, .int .i64 hi] H = some (.bool (decide (lo ≤ n) && decide (n ≤ hi)), H) := by
  refine lim_flat rfl rfl P_grammar_within 1 (fun h => rfl) ?_ (fun _ => rfl) H
  rw [R_grammar_within]
  by_cases h1 : lo ≤ n
  · simp only [Zab,Zac,Zai,Zaj,Zak,Zay,Zbb,Zbg,Zbi,Zbj,Zbk,Zbl,Zbq,Zct,Zcu,Zcv,Zcw,List.set_cons_zero,List.set_cons_succ,List.getD_cons_zero,List.getD_cons_succ,Option.map_some,Zdh,Zdj,decide_true,List.length_cons,List.length_nil,Nat.reduceAdd,Nat.reduceSub,eq_self,true_and,List.length_cons,List.length_nil,List.replicate_succ,List.replicate_zero,List.cons_append,List.nil_append,h1,resAll,resVals,resVal,Option.some.injEq,Prod.mk.injEq,true_and,Bool.true_and,exists_eq']
  · simp only [Zab,Zac,Zai,Zaj,Zak,Zay,Zbe,Zbh,Zbi,Zbj,Zbk,Zbl,Zbq,Zct,Zcu,Zcv,Zcw,List.set_cons_zero,List.set_cons_succ,List.getD_cons_zero,List.getD_cons_succ,Option.map_some,Zdj,decide_false,List.length_cons,List.length_nil,Nat.reduceAdd,Nat.reduceSub,eq_self,true_and,List.length_cons,List.length_nil,List.replicate_succ,List.replicate_zero,List.cons_append,List.nil_append,h1,resAll,resVals,resVal,Option.some.injEq,Prod.mk.injEq,true_and,Bool.false_and,exists_eq']

theorem f_there (g : GramD) (hg : g.Ok) (s : Int) (H : AHeap) : lim G0.cfg (.func 76) [.agg (eGram g), .int .i64 s] H = some (.bool (isSym g s), H) := by
  refine lim_flat rfl rfl P_grammar_there 1 (fun h => fz_2 (fz_gram g h) rfl) ?_ (fun _ => rfl) H
  have hw : IntKind.i64.wrap (-(g.nonterms.length : Int)) = -(g.nonterms.length : Int) := by have := hg.nonterms; rw [maxLen_eq] at this; exact w64 (by omega) (by omega)
  rw [R_grammar_there]
  unfold isSym
  by_cases h1 : s < (g.terms.length : Int)
  · simp only [Zab,Zac,Zai,Zaj,Zak,Zay,Zaz,Zbb,Zbg,Zbi,Zbj,Zbk,Zbl,Zbn,Zbo,Zbq,Zbr,Zby,Zcg,Zcr,Zct,Zcu,Zcv,Zcw,List.set_cons_zero,List.set_cons_succ,List.getD_cons_zero,List.getD_cons_succ,Option.bind_some,Option.map_some,Zdg,Zdj,Zdr,Zds,Zdw,Zdy,Zea,Zep,decide_true,List.getElem?_cons_zero,List.length_cons,List.length_nil,if_true,Nat.reduceAdd,Nat.reduceSub,Nat.reduceLeDiff,eq_self,true_and,List.length_cons,List.length_nil,List.replicate_succ,List.replicate_zero,List.cons_append,List.nil_append,aload,acells,getArr,part,List.drop_zero,List.drop_succ_cons,List.take_succ_cons,List.take_zero,List.cons_append,List.nil_append,List.set_cons_zero,h1,hw,resAll,resVals,resVal,Option.some.injEq,Prod.mk.injEq,true_and,Bool.true_and,exists_eq']
  · simp only [Zab,Zac,Zai,Zaj,Zak,Zay,Zaz,Zbe,Zbh,Zbi,Zbj,Zbk,Zbl,Zbn,Zbo,Zbq,Zby,Zcg,Zcr,Zct,Zcu,Zcv,Zcw,List.set_cons_zero,List.set_cons_succ,List.getD_cons_zero,List.getD_cons_succ,Option.bind_some,Option.map_some,Zdg,Zds,Zdw,Zdy,Zea,Zep,decide_false,List.getElem?_cons_zero,List.length_cons,List.length_nil,if_true,Nat.reduceAdd,Nat.reduceSub,Nat.reduceLeDiff,eq_self,true_and,List.length_cons,List.length_nil,List.replicate_succ,List.replicate_zero,List.cons_append,List.nil_append,aload,acells,getArr,part,List.drop_zero,List.take_succ_cons,List.take_zero,List.cons_append,List.nil_append,List.set_cons_zero,h1,resAll,resVals,resVal,Option.some.injEq,Prod.mk.injEq,true_and,Bool.false_and,exists_eq']

theorem f_counts_loop (g : GramD) (hg : g.Ok) (n : Nat) : ∀ (d i m : Nat) (w : Int) (h : AHeap), g.rules.length = i + d → d < m → h[0]? = some (.arr 0 5 true [eGram g]) → ∃ h', h'[0]? = some (.arr 0 5 true [eGram g]) ∧
    loopN (evalCode (lim G0.cfg) n B_grammar_counts_0) m ⟨(.junk :: .ptr 0 0 0 0 :: .junk :: .int .i64 w :: .junk::.junk::.junk :: .vsl false (g.rules.map eRule) :: .int .i64 g.rules.length :: .int .i64 i :: .junk::.junk::.junk::.junk::.junk::.junk::.junk::.junk::.junk::.junk::.junk::.junk::.junk::.junk::.junk::.junk::.junk::.junk::.junk::.junk::.junk::.junk::.junk::.junk::.junk::.junk::.junk::.junk::.junk::.junk::.junk::.junk::.junk::.junk::.junk::.junk::.junk::.junk::.junk::.junk::.junk::.junk::.junk::.junk::.junk::.junk::.junk::.junk::.junk::.junk :: []), h⟩ =
      some (.exit 0, ⟨(.junk :: .ptr 0 0 0 0 :: .junk :: .int .i64 (wsum (g.rules.drop i) w) :: .junk::.junk::.junk::.junk::.junk::.junk::.junk::.junk::.junk::.junk::.junk::.junk::.junk::.junk::.junk::.junk::.junk::.junk::.junk::.junk::.junk::.junk::.junk::.junk::.junk::.junk::.junk::.junk::.junk::.junk::.junk::.junk::.junk::.junk::.junk::.junk::.junk::.junk::.junk::.junk::.junk::.junk::.junk::.junk::.junk::.junk::.junk::.junk::.junk::.junk::.junk::.junk::.junk::.junk::.junk::.junk :: []), h'⟩) := by
  have hm := hg.rules
  rw [maxLen_eq] at hm
  intro d
  induction d with
  | zero =>
    intro i m w h h1 h2 hb
    obtain ⟨m, rfl⟩ : ∃ q, m = q + 1 := ⟨m - 1, by omega⟩
    have e1 : g.rules.drop i = [] := List.drop_eq_nil_iff.2 (by omega)
    have h3 : ¬ ((i : Int) < g.rules.length) := by omega
    exact ⟨h, hb, by simp only [loop_e,EB_grammar_counts_0,Zab,Zac,Zad,Zag,Zah,Zaj,Zak,Zal,Zas,Zav,Zay,Zbi,Zbq,Zcu,Zcw,Zda,Zdb,Zdc,List.set_cons_zero,List.set_cons_succ,List.getD_cons_zero,List.getD_cons_succ,Zdg,decide_false,eq_self,h3,e1,wsum]⟩
  | succ d ih =>
    intro i m w h h1 h2 hb
    obtain ⟨m, rfl⟩ : ∃ q, m = q + 1 := ⟨m - 1, by omega⟩
    have h3 : i < g.rules.length := by omega
    have h3' : (i : Int) < g.rules.length := by omega
    have e1 : g.rules.drop i = g.rules[i] :: g.rules.drop (i + 1) := List.drop_eq_getElem_cons h3
    have hw := w64s (n := i) (by omega)
    obtain ⟨h', hb', e⟩ := ih (i + 1) m (IntKind.i64.wrap (w + (g.rules[i]).right.length)) (h ++ [.arr 0 5 true [eRule g.rules[i]]]) (by omega) (by omega) (get_app hb _)
    exact ⟨h', hb', by simp only [loop_e,EB_grammar_counts_0,Zaa,Zab,Zac,Zad,Zae,Zag,Zaj,Zak,Zan,Zar,Zau,Zay,Zba,Zbi,Zbk,Zbm,Zbo,Zbp,Zbq,Zby,Zcb,Zcg,Zcu,Zcv,Zcw,Zcx,Zda,Zdb,Zdc,List.set_cons_zero,List.set_cons_succ,List.getD_cons_zero,List.getD_cons_succ,Option.bind_some,Zdd,Zdg,Zds,Zdw,Zdy,Zdz,Zea,Zeo,decide_true,List.getElem?_cons_zero,List.length_cons,List.length_nil,if_true,Nat.reduceAdd,Nat.reduceLeDiff,eq_self,and_self,aload,acells,getArr,part,astore,putCells,get_new,set_new,List.all_cons,List.all_nil,cellOk,Bool.and_self,List.drop_zero,List.drop_succ_cons,List.take_succ_cons,List.take_zero,List.take_nil,List.cons_append,List.nil_append,List.set_cons_zero,h3',e1,ix_map eRule _ 5 _ g.rules _ i h3 rfl,hw,wsum,e]⟩

theorem f_counts_1 (o : Int) (H : AHeap) : lim G0.cfg (.func 83) [.int .i64 o] H = some (.bool (!(decide (0 ≤ o) && decide (o ≤ 5))), H) := by
  refine lim_flat rfl rfl P_grammar_counts_1 1 (fun h => rfl) ?_ (fun _ => rfl) H
  rw [R_grammar_counts_1]
  by_cases h1 : o < 0
  · have h2 : ¬ (0 ≤ o) := by omega
    simp only [Zab,Zac,Zai,Zaj,Zak,Zay,Zbd,Zbg,Zbi,Zbj,Zbk,Zbl,Zbq,Zct,Zcu,Zcv,Zcw,List.set_cons_zero,List.set_cons_succ,List.getD_cons_zero,List.getD_cons_succ,Option.map_some,Zdg,decide_true,decide_false,Bool.not_false,List.length_cons,List.length_nil,Nat.reduceAdd,Nat.reduceSub,eq_self,true_and,List.length_cons,List.length_nil,List.replicate_succ,List.replicate_zero,List.cons_append,List.nil_append,h1,h2,resAll,resVals,resVal,Option.some.injEq,Prod.mk.injEq,true_and,Bool.false_and,exists_eq']
  · have h2 : 0 ≤ o := by omega
    by_cases h3 : 5 < o
    · have h4 : ¬ (o ≤ 5) := by omega
      simp only [Zab,Zac,Zai,Zaj,Zak,Zay,Zbc,Zbh,Zbi,Zbj,Zbk,Zbl,Zbq,Zct,Zcu,Zcv,Zcw,List.set_cons_zero,List.set_cons_succ,List.getD_cons_zero,List.getD_cons_succ,Option.map_some,Zdg,Zdi,decide_true,decide_false,Bool.not_false,List.length_cons,List.length_nil,Nat.reduceAdd,Nat.reduceSub,eq_self,true_and,List.length_cons,List.length_nil,List.replicate_succ,List.replicate_zero,List.cons_append,List.nil_append,h1,h2,h3,h4,resAll,resVals,resVal,Option.some.injEq,Prod.mk.injEq,true_and,Bool.and_false,exists_eq']
    · have h4 : o ≤ 5 := by omega
      simp only [Zab,Zac,Zai,Zaj,Zak,Zay,Zbc,Zbh,Zbi,Zbj,Zbk,Zbl,Zbq,Zct,Zcu,Zcv,Zcw,List.set_cons_zero,List.set_cons_succ,List.getD_cons_zero,List.getD_cons_succ,Option.map_some,Zdg,Zdi,decide_true,decide_false,Bool.not_true,List.length_cons,List.length_nil,Nat.reduceAdd,Nat.reduceSub,eq_self,true_and,List.length_cons,List.length_nil,List.replicate_succ,List.replicate_zero,List.cons_append,List.nil_append,h1,h2,h3,h4,resAll,resVals,resVal,Option.some.injEq,Prod.mk.injEq,true_and,Bool.and_true,exists_eq']

theorem f_counts_orig (g : GramD) (hg : g.Ok) (H : AHeap) : lim G0.cfg (.func 82) [.vsl false (eIs g.origins), .fn (.func 83) [] []] H = some (.bool (!g.origins.all (fun o => decide (0 ≤ o) && decide (o ≤ 5))), H) := by
  have := f_ContainsFunc_sOrigin_Origin (l := g.origins) (g := 83) (caps := []) (caps' := []) (bs := []) (H := H) (p := fun o => !(decide (0 ≤ o) && decide (o ≤ 5))) rfl rfl (fun x _ H => f_counts_1 x H) hg.origins (fun _ => rfl)
  rw [eIs, this, List.all_eq_not_any_not, Bool.not_not]

theorem f_counts (g : GramD) (hg : g.Ok) (H : AHeap) : lim G0.cfg (.func 67) [.agg (eGram g)] H = some (.bool (countsOk g), H) := by
  refine lim_flat rfl rfl P_grammar_counts (g.rules.length + 1) (fun h => fz_1 (fz_gram g h)) ?_ (fun _ => rfl) H
  obtain ⟨h', hb, e⟩ := f_counts_loop g hg (g.rules.length + 1) g.rules.length 0 (g.rules.length + 1) 0 [.arr 0 5 true [eGram g]] (by omega) (by omega) rfl
  rw [List.drop_zero, z0] at e
  rw [R_grammar_counts]
  have w1 := f_within
  have w2 := f_counts_orig g hg
  unfold countsOk
  generalize hall : (g.origins.all fun o => decide (0 ≤ o) && decide (o ≤ 5)) = ab at w2
  cases ab
  case false =>
    by_cases c1 : (2 : Int) ≤ g.terms.length
    case neg => simp only [Zab,Zac,Zae,Zaf,Zag,Zai,Zaj,Zak,Zap,Zat,Zay,Zaz,Zbe,Zbh,Zbi,Zbj,Zbk,Zbl,Zbn,Zbo,Zby,Zcg,Zco,Zcp,Zcr,Zct,Zcu,Zcv,Zcw,Zcy,Zcz,Zda,Zdb,Zdc,List.set_cons_zero,List.set_cons_succ,List.getD_cons_zero,List.getD_cons_succ,Option.bind_some,Option.map_some,Zds,Zdw,Zdy,Zea,Zep,decide_false,List.getElem?_cons_zero,List.length_cons,List.length_nil,if_true,Nat.reduceAdd,Nat.reduceSub,Nat.reduceLeDiff,eq_self,true_and,List.length_map,List.length_cons,List.length_nil,List.replicate_succ,List.replicate_zero,List.cons_append,List.nil_append,aload,acells,getArr,part,Bool.and_self,List.drop_zero,List.drop_succ_cons,List.take_succ_cons,List.take_zero,List.cons_append,List.nil_append,List.set_cons_zero,List.length_map,e,hb,w1,c1,resAll,resVals,resVal,Option.some.injEq,Prod.mk.injEq,true_and,Bool.false_and,exists_eq']
    case pos =>
      by_cases c2 : (g.terms.length : Int) ≤ 256
      case neg => simp only [Zab,Zac,Zae,Zaf,Zag,Zai,Zaj,Zak,Zap,Zat,Zay,Zaz,Zbe,Zbh,Zbi,Zbj,Zbk,Zbl,Zbn,Zbo,Zby,Zcg,Zco,Zcp,Zcr,Zct,Zcu,Zcv,Zcw,Zcy,Zcz,Zda,Zdb,Zdc,List.set_cons_zero,List.set_cons_succ,List.getD_cons_zero,List.getD_cons_succ,Option.bind_some,Option.map_some,Zds,Zdw,Zdy,Zea,Zep,decide_true,decide_false,List.getElem?_cons_zero,List.length_cons,List.length_nil,if_true,Nat.reduceAdd,Nat.reduceSub,Nat.reduceLeDiff,eq_self,true_and,List.length_map,List.length_cons,List.length_nil,List.replicate_succ,List.replicate_zero,List.cons_append,List.nil_append,aload,acells,getArr,part,Bool.and_self,List.drop_zero,List.drop_succ_cons,List.take_succ_cons,List.take_zero,List.cons_append,List.nil_append,List.set_cons_zero,List.length_map,e,hb,w1,c1,c2,resAll,resVals,resVal,Option.some.injEq,Prod.mk.injEq,true_and,Bool.false_and,Bool.and_false,exists_eq']
      case pos =>
        by_cases c3 : (1 : Int) ≤ g.nonterms.length
        case neg => simp only [Zab,Zac,Zae,Zaf,Zag,Zai,Zaj,Zak,Zap,Zat,Zay,Zaz,Zbb,Zbe,Zbg,Zbh,Zbi,Zbj,Zbk,Zbl,Zbn,Zbo,Zby,Zcg,Zco,Zcp,Zcr,Zct,Zcu,Zcv,Zcw,Zcy,Zcz,Zda,Zdb,Zdc,List.set_cons_zero,List.set_cons_succ,List.getD_cons_zero,List.getD_cons_succ,Option.bind_some,Option.map_some,Zds,Zdw,Zdy,Zea,Zep,decide_true,decide_false,List.getElem?_cons_zero,List.length_cons,List.length_nil,if_true,Nat.reduceAdd,Nat.reduceSub,Nat.reduceLeDiff,eq_self,true_and,List.length_map,List.length_cons,List.length_nil,List.replicate_succ,List.replicate_zero,List.cons_append,List.nil_append,aload,acells,getArr,part,Bool.and_self,List.drop_zero,List.drop_succ_cons,List.take_succ_cons,List.take_zero,List.cons_append,List.nil_append,List.set_cons_zero,List.length_map,e,hb,w1,c1,c2,c3,resAll,resVals,resVal,Option.some.injEq,Prod.mk.injEq,true_and,Bool.false_and,Bool.and_false,exists_eq']
        case pos =>
          by_cases c4 : (g.nonterms.length : Int) ≤ 512
          case neg => simp only [Zab,Zac,Zae,Zaf,Zag,Zai,Zaj,Zak,Zap,Zat,Zay,Zaz,Zbb,Zbe,Zbg,Zbh,Zbi,Zbj,Zbk,Zbl,Zbn,Zbo,Zby,Zcg,Zco,Zcp,Zcr,Zct,Zcu,Zcv,Zcw,Zcy,Zcz,Zda,Zdb,Zdc,List.set_cons_zero,List.set_cons_succ,List.getD_cons_zero,List.getD_cons_succ,Option.bind_some,Option.map_some,Zds,Zdw,Zdy,Zea,Zep,decide_true,decide_false,List.getElem?_cons_zero,List.length_cons,List.length_nil,if_true,Nat.reduceAdd,Nat.reduceSub,Nat.reduceLeDiff,eq_self,true_and,List.length_map,List.length_cons,List.length_nil,List.replicate_succ,List.replicate_zero,List.cons_append,List.nil_append,aload,acells,getArr,part,Bool.and_self,List.drop_zero,List.drop_succ_cons,List.take_succ_cons,List.take_zero,List.cons_append,List.nil_append,List.set_cons_zero,List.length_map,e,hb,w1,c1,c2,c3,c4,resAll,resVals,resVal,Option.some.injEq,Prod.mk.injEq,true_and,Bool.false_and,Bool.and_false,exists_eq']
          case pos =>
            by_cases c5 : (g.origins.length : Int) = g.nonterms.length
            case neg => simp only [Zab,Zac,Zae,Zaf,Zag,Zai,Zaj,Zak,Zap,Zat,Zay,Zaz,Zbb,Zbe,Zbg,Zbh,Zbi,Zbj,Zbk,Zbl,Zbn,Zbo,Zbq,Zby,Zcg,Zco,Zcp,Zcr,Zct,Zcu,Zcv,Zcw,Zcy,Zcz,Zda,Zdb,Zdc,List.set_cons_zero,List.set_cons_succ,List.getD_cons_zero,List.getD_cons_succ,Option.bind_some,Option.map_some,Zdk,Zds,Zdw,Zdy,Zea,Zeo,Zep,decide_true,decide_false,List.getElem?_cons_zero,List.length_cons,List.length_nil,if_true,Nat.reduceAdd,Nat.reduceSub,Nat.reduceLeDiff,eq_self,true_and,List.length_map,List.length_cons,List.length_nil,List.replicate_succ,List.replicate_zero,List.cons_append,List.nil_append,aload,acells,getArr,part,Bool.and_self,List.drop_zero,List.drop_succ_cons,List.take_succ_cons,List.take_zero,List.cons_append,List.nil_append,List.set_cons_zero,List.length_map,e,hb,w1,c1,c2,c3,c4,c5,resAll,resVals,resVal,Option.some.injEq,Prod.mk.injEq,true_and,Bool.false_and,Bool.and_false,exists_eq']
            case pos =>
              simp only [Zab,Zac,Zae,Zaf,Zag,Zai,Zaj,Zak,Zap,Zat,Zay,Zaz,Zbb,Zbe,Zbg,Zbh,Zbi,Zbj,Zbk,Zbl,Zbn,Zbo,Zbq,Zbr,Zby,Zcg,Zco,Zcp,Zcr,Zct,Zcu,Zcv,Zcw,Zcy,Zcz,Zda,Zdb,Zdc,List.set_cons_zero,List.set_cons_succ,List.getD_cons_zero,List.getD_cons_succ,Option.bind_some,Option.map_some,Zdk,Zdq,Zds,Zdw,Zdy,Zea,Zeo,Zep,decide_true,Bool.not_true,Bool.not_false,List.getElem?_cons_zero,List.length_cons,List.length_nil,if_true,Nat.reduceAdd,Nat.reduceSub,Nat.reduceLeDiff,eq_self,true_and,List.length_map,List.length_cons,List.length_nil,List.replicate_succ,List.replicate_zero,List.cons_append,List.nil_append,aload,acells,getArr,part,Bool.and_self,List.drop_zero,List.drop_succ_cons,List.take_succ_cons,List.take_zero,List.cons_append,List.nil_append,List.set_cons_zero,List.length_map,e,hb,w1,w2,c1,c2,c3,c4,c5,resAll,resVals,resVal,Option.some.injEq,Prod.mk.injEq,true_and,Bool.false_and,Bool.and_false,exists_eq']
  case true =>
    by_cases c1 : (2 : Int) ≤ g.terms.length
    case neg => simp only [Zab,Zac,Zae,Zaf,Zag,Zai,Zaj,Zak,Zap,Zat,Zay,Zaz,Zbe,Zbh,Zbi,Zbj,Zbk,Zbl,Zbn,Zbo,Zby,Zcg,Zco,Zcp,Zcr,Zct,Zcu,Zcv,Zcw,Zcy,Zcz,Zda,Zdb,Zdc,List.set_cons_zero,List.set_cons_succ,List.getD_cons_zero,List.getD_cons_succ,Option.bind_some,Option.map_some,Zds,Zdw,Zdy,Zea,Zep,decide_false,List.getElem?_cons_zero,List.length_cons,List.length_nil,if_true,Nat.reduceAdd,Nat.reduceSub,Nat.reduceLeDiff,eq_self,true_and,List.length_map,List.length_cons,List.length_nil,List.replicate_succ,List.replicate_zero,List.cons_append,List.nil_append,aload,acells,getArr,part,List.drop_zero,List.drop_succ_cons,List.take_succ_cons,List.take_zero,List.cons_append,List.nil_append,List.set_cons_zero,List.length_map,e,hb,w1,c1,resAll,resVals,resVal,Option.some.injEq,Prod.mk.injEq,true_and,Bool.false_and,Bool.and_true,exists_eq']
    case pos =>
      by_cases c2 : (g.terms.length : Int) ≤ 256
      case neg => simp only [Zab,Zac,Zae,Zaf,Zag,Zai,Zaj,Zak,Zap,Zat,Zay,Zaz,Zbe,Zbh,Zbi,Zbj,Zbk,Zbl,Zbn,Zbo,Zby,Zcg,Zco,Zcp,Zcr,Zct,Zcu,Zcv,Zcw,Zcy,Zcz,Zda,Zdb,Zdc,List.set_cons_zero,List.set_cons_succ,List.getD_cons_zero,List.getD_cons_succ,Option.bind_some,Option.map_some,Zds,Zdw,Zdy,Zea,Zep,decide_true,decide_false,List.getElem?_cons_zero,List.length_cons,List.length_nil,if_true,Nat.reduceAdd,Nat.reduceSub,Nat.reduceLeDiff,eq_self,true_and,List.length_map,List.length_cons,List.length_nil,List.replicate_succ,List.replicate_zero,List.cons_append,List.nil_append,aload,acells,getArr,part,List.drop_zero,List.drop_succ_cons,List.take_succ_cons,List.take_zero,List.cons_append,List.nil_append,List.set_cons_zero,List.length_map,e,hb,w1,c1,c2,resAll,resVals,resVal,Option.some.injEq,Prod.mk.injEq,true_and,Bool.false_and,Bool.and_true,Bool.and_false,exists_eq']
      case pos =>
        by_cases c3 : (1 : Int) ≤ g.nonterms.length
        case neg => simp only [Zab,Zac,Zae,Zaf,Zag,Zai,Zaj,Zak,Zap,Zat,Zay,Zaz,Zbb,Zbe,Zbg,Zbh,Zbi,Zbj,Zbk,Zbl,Zbn,Zbo,Zby,Zcg,Zco,Zcp,Zcr,Zct,Zcu,Zcv,Zcw,Zcy,Zcz,Zda,Zdb,Zdc,List.set_cons_zero,List.set_cons_succ,List.getD_cons_zero,List.getD_cons_succ,Option.bind_some,Option.map_some,Zds,Zdw,Zdy,Zea,Zep,decide_true,decide_false,List.getElem?_cons_zero,List.length_cons,List.length_nil,if_true,Nat.reduceAdd,Nat.reduceSub,Nat.reduceLeDiff,eq_self,true_and,List.length_map,List.length_cons,List.length_nil,List.replicate_succ,List.replicate_zero,List.cons_append,List.nil_append,aload,acells,getArr,part,Bool.and_self,List.drop_zero,List.drop_succ_cons,List.take_succ_cons,List.take_zero,List.cons_append,List.nil_append,List.set_cons_zero,List.length_map,e,hb,w1,c1,c2,c3,resAll,resVals,resVal,Option.some.injEq,Prod.mk.injEq,true_and,Bool.false_and,Bool.and_true,Bool.and_false,exists_eq']
        case pos =>
          by_cases c4 : (g.nonterms.length : Int) ≤ 512
          case neg => simp only [Zab,Zac,Zae,Zaf,Zag,Zai,Zaj,Zak,Zap,Zat,Zay,Zaz,Zbb,Zbe,Zbg,Zbh,Zbi,Zbj,Zbk,Zbl,Zbn,Zbo,Zby,Zcg,Zco,Zcp,Zcr,Zct,Zcu,Zcv,Zcw,Zcy,Zcz,Zda,Zdb,Zdc,List.set_cons_zero,List.set_cons_succ,List.getD_cons_zero,List.getD_cons_succ,Option.bind_some,Option.map_some,Zds,Zdw,Zdy,Zea,Zep,decide_true,decide_false,List.getElem?_cons_zero,List.length_cons,List.length_nil,if_true,Nat.reduceAdd,Nat.reduceSub,Nat.reduceLeDiff,eq_self,true_and,List.length_map,List.length_cons,List.length_nil,List.replicate_succ,List.replicate_zero,List.cons_append,List.nil_append,aload,acells,getArr,part,Bool.and_self,List.drop_zero,List.drop_succ_cons,List.take_succ_cons,List.take_zero,List.cons_append,List.nil_append,List.set_cons_zero,List.length_map,e,hb,w1,c1,c2,c3,c4,resAll,resVals,resVal,Option.some.injEq,Prod.mk.injEq,true_and,Bool.false_and,Bool.and_true,Bool.and_false,exists_eq']
          case pos =>
            by_cases c5 : (g.origins.length : Int) = g.nonterms.length
            case neg => simp only [Zab,Zac,Zae,Zaf,Zag,Zai,Zaj,Zak,Zap,Zat,Zay,Zaz,Zbb,Zbe,Zbg,Zbh,Zbi,Zbj,Zbk,Zbl,Zbn,Zbo,Zbq,Zby,Zcg,Zco,Zcp,Zcr,Zct,Zcu,Zcv,Zcw,Zcy,Zcz,Zda,Zdb,Zdc,List.set_cons_zero,List.set_cons_succ,List.getD_cons_zero,List.getD_cons_succ,Option.bind_some,Option.map_some,Zdk,Zds,Zdw,Zdy,Zea,Zeo,Zep,decide_true,decide_false,List.getElem?_cons_zero,List.length_cons,List.length_nil,if_true,Nat.reduceAdd,Nat.reduceSub,Nat.reduceLeDiff,eq_self,true_and,List.length_map,List.length_cons,List.length_nil,List.replicate_succ,List.replicate_zero,List.cons_append,List.nil_append,aload,acells,getArr,part,Bool.and_self,List.drop_zero,List.drop_succ_cons,List.take_succ_cons,List.take_zero,List.cons_append,List.nil_append,List.set_cons_zero,List.length_map,e,hb,w1,c1,c2,c3,c4,c5,resAll,resVals,resVal,Option.some.injEq,Prod.mk.injEq,true_and,Bool.false_and,Bool.and_true,Bool.and_false,exists_eq']
            case pos =>
              by_cases c7 : (1 : Int) ≤ g.rules.length
              case neg => simp only [Zab,Zac,Zae,Zaf,Zag,Zai,Zaj,Zak,Zap,Zat,Zay,Zaz,Zbb,Zbe,Zbg,Zbh,Zbi,Zbj,Zbk,Zbl,Zbn,Zbo,Zbq,Zbr,Zby,Zcg,Zco,Zcp,Zcr,Zct,Zcu,Zcv,Zcw,Zcy,Zcz,Zda,Zdb,Zdc,List.set_cons_zero,List.set_cons_succ,List.getD_cons_zero,List.getD_cons_succ,Option.bind_some,Option.map_some,Zdk,Zdq,Zds,Zdw,Zdy,Zea,Zeo,Zep,decide_true,decide_false,Bool.not_true,Bool.not_false,List.getElem?_cons_zero,List.length_cons,List.length_nil,if_true,Nat.reduceAdd,Nat.reduceSub,Nat.reduceLeDiff,eq_self,true_and,List.length_map,List.length_cons,List.length_nil,List.replicate_succ,List.replicate_zero,List.cons_append,List.nil_append,aload,acells,getArr,part,Bool.and_self,List.drop_zero,List.drop_succ_cons,List.take_succ_cons,List.take_zero,List.cons_append,List.nil_append,List.set_cons_zero,List.length_map,e,hb,w1,w2,c1,c2,c3,c4,c5,c7,resAll,resVals,resVal,Option.some.injEq,Prod.mk.injEq,true_and,Bool.false_and,Bool.and_false,exists_eq']
              case pos =>
                by_cases c8 : (g.rules.length : Int) ≤ 1024
                case neg => simp only [Zab,Zac,Zae,Zaf,Zag,Zai,Zaj,Zak,Zap,Zat,Zay,Zaz,Zbb,Zbe,Zbg,Zbh,Zbi,Zbj,Zbk,Zbl,Zbn,Zbo,Zbq,Zbr,Zby,Zcg,Zco,Zcp,Zcr,Zct,Zcu,Zcv,Zcw,Zcy,Zcz,Zda,Zdb,Zdc,List.set_cons_zero,List.set_cons_succ,List.getD_cons_zero,List.getD_cons_succ,Option.bind_some,Option.map_some,Zdk,Zdq,Zds,Zdw,Zdy,Zea,Zeo,Zep,decide_true,decide_false,Bool.not_true,Bool.not_false,List.getElem?_cons_zero,List.length_cons,List.length_nil,if_true,Nat.reduceAdd,Nat.reduceSub,Nat.reduceLeDiff,eq_self,true_and,List.length_map,List.length_cons,List.length_nil,List.replicate_succ,List.replicate_zero,List.cons_append,List.nil_append,aload,acells,getArr,part,Bool.and_self,List.drop_zero,List.drop_succ_cons,List.take_succ_cons,List.take_zero,List.cons_append,List.nil_append,List.set_cons_zero,List.length_map,e,hb,w1,w2,c1,c2,c3,c4,c5,c7,c8,resAll,resVals,resVal,Option.some.injEq,Prod.mk.injEq,true_and,Bool.false_and,Bool.and_false,exists_eq']
                case pos =>
                  by_cases c9 : (g.levels.length : Int) ≤ 32
                  case neg => simp only [Zab,Zac,Zae,Zaf,Zag,Zai,Zaj,Zak,Zap,Zat,Zay,Zaz,Zbb,Zbe,Zbg,Zbh,Zbi,Zbj,Zbk,Zbl,Zbn,Zbo,Zbq,Zbr,Zby,Zcg,Zco,Zcp,Zcr,Zct,Zcu,Zcv,Zcw,Zcy,Zcz,Zda,Zdb,Zdc,List.set_cons_zero,List.set_cons_succ,List.getD_cons_zero,List.getD_cons_succ,Option.bind_some,Option.map_some,Zdh,Zdk,Zdq,Zds,Zdw,Zdy,Zea,Zeo,Zep,decide_true,decide_false,Bool.not_true,Bool.not_false,List.getElem?_cons_zero,List.length_cons,List.length_nil,if_true,Nat.reduceAdd,Nat.reduceSub,Nat.reduceLeDiff,eq_self,true_and,List.length_map,List.length_cons,List.length_nil,List.replicate_succ,List.replicate_zero,List.cons_append,List.nil_append,aload,acells,getArr,part,Bool.and_self,List.drop_zero,List.drop_succ_cons,List.take_succ_cons,List.take_zero,List.take_nil,List.cons_append,List.nil_append,List.set_cons_zero,List.length_map,e,hb,w1,w2,c1,c2,c3,c4,c5,c7,c8,c9,resAll,resVals,resVal,Option.some.injEq,Prod.mk.injEq,true_and,Bool.false_and,Bool.and_false,exists_eq']
                  case pos =>
                    by_cases c10 : wsum g.rules 0 ≤ 8192
                    case neg => simp only [Zab,Zac,Zae,Zaf,Zag,Zai,Zaj,Zak,Zap,Zat,Zay,Zaz,Zbb,Zbg,Zbi,Zbj,Zbk,Zbl,Zbn,Zbo,Zbq,Zbr,Zby,Zcg,Zco,Zcp,Zcr,Zct,Zcu,Zcv,Zcw,Zcy,Zcz,Zda,Zdb,Zdc,List.set_cons_zero,List.set_cons_succ,List.getD_cons_zero,List.getD_cons_succ,Option.bind_some,Option.map_some,Zdh,Zdk,Zdq,Zds,Zdw,Zdy,Zea,Zeo,Zep,decide_true,decide_false,Bool.not_true,Bool.not_false,List.getElem?_cons_zero,List.length_cons,List.length_nil,if_true,Nat.reduceAdd,Nat.reduceSub,Nat.reduceLeDiff,eq_self,true_and,List.length_map,List.length_cons,List.length_nil,List.replicate_succ,List.replicate_zero,List.cons_append,List.nil_append,aload,acells,getArr,part,Bool.and_self,List.drop_zero,List.drop_succ_cons,List.take_succ_cons,List.take_zero,List.take_nil,List.cons_append,List.nil_append,List.set_cons_zero,List.length_map,e,hb,w1,w2,c1,c2,c3,c4,c5,c7,c8,c9,c10,resAll,resVals,resVal,Option.some.injEq,Prod.mk.injEq,true_and,Bool.and_false,exists_eq']
                    case pos =>
                      simp only [Zab,Zac,Zae,Zaf,Zag,Zai,Zaj,Zak,Zap,Zat,Zay,Zaz,Zbb,Zbg,Zbi,Zbj,Zbk,Zbl,Zbn,Zbo,Zbq,Zbr,Zby,Zcg,Zco,Zcp,Zcr,Zct,Zcu,Zcv,Zcw,Zcy,Zcz,Zda,Zdb,Zdc,List.set_cons_zero,List.set_cons_succ,List.getD_cons_zero,List.getD_cons_succ,Option.bind_some,Option.map_some,Zdh,Zdk,Zdq,Zds,Zdw,Zdy,Zea,Zeo,Zep,decide_true,Bool.not_true,Bool.not_false,List.getElem?_cons_zero,List.length_cons,List.length_nil,if_true,Nat.reduceAdd,Nat.reduceSub,Nat.reduceLeDiff,eq_self,true_and,List.length_map,List.length_cons,List.length_nil,List.replicate_succ,List.replicate_zero,List.cons_append,List.nil_append,aload,acells,getArr,part,Bool.and_self,List.drop_zero,List.drop_succ_cons,List.take_succ_cons,List.take_zero,List.take_nil,List.cons_append,List.nil_append,List.set_cons_zero,List.length_map,e,hb,w1,w2,c1,c2,c3,c4,c5,c7,c8,c9,c10,resAll,resVals,resVal,Option.some.injEq,Prod.mk.injEq,true_and,exists_eq']

/-! ### Names that come twice -/
theorem getD_int (o : Option Int) (z : Int) : (o.map (AV.int .i64)).getD (.int .i64 z) = .int .i64 (o.getD z) := by cases o <;> rfl

theorem f_twice_loop (l : List Str) (hm : l.length ≤ maxLen) (n : Nat) : ∀ (d i m : Nat) (L : List (Str × Int)), l.length = i + d → d < m → ∃ L' : List (Str × Int), L'.map (·.1) = dk (L.map (·.1)) (l.drop i) ∧
    loopN (evalCode (lim G0.cfg) n B_grammar_twice_0) m ⟨[.vsl false (eSs l), .junk,.junk, .map 0, .junk,.junk,.junk, .vsl false (eSs l), .int .i64 l.length, .int .i64 i, .junk,.junk,.junk,.junk,.junk,.junk,.junk,.junk,.junk,.junk,.junk,.junk,.junk], [.map (mE AV.str (AV.int .i64) L)]⟩ =
      some (.exit 0, ⟨[.vsl false (eSs l), .junk,.junk, .map 0, .junk,.junk,.junk,.junk,.junk,.junk,.junk,.junk,.junk,.junk,.junk,.junk,.junk,.junk,.junk,.junk,.junk,.junk,.junk], [.map (mE AV.str (AV.int .i64) L')]⟩) := by
  rw [maxLen_eq] at hm
  intro d
  induction d with
  | zero =>
    intro i m L h1 h2
    obtain ⟨m, rfl⟩ : ∃ q, m = q + 1 := ⟨m - 1, by omega⟩
    have e1 : l.drop i = [] := List.drop_eq_nil_iff.2 (by omega)
    have h3 : ¬ ((i : Int) < l.length) := by omega
    exact ⟨L, by rw [e1]; rfl, by simp only [loop_e,EB_grammar_twice_0,Zab,Zac,Zad,Zag,Zah,Zaj,Zak,Zal,Zas,Zav,Zay,Zbi,Zbq,Zcu,Zcw,Zda,Zdb,Zdc,List.set_cons_zero,List.set_cons_succ,List.getD_cons_zero,List.getD_cons_succ,Zdg,decide_false,eq_self,h3]⟩
  | succ d ih =>
    intro i m L h1 h2
    obtain ⟨m, rfl⟩ : ∃ q, m = q + 1 := ⟨m - 1, by omega⟩
    have h3 : i < l.length := by omega
    have h3' : (i : Int) < l.length := by omega
    have e1 : l.drop i = l[i] :: l.drop (i + 1) := List.drop_eq_getElem_cons h3
    have hw := w64s (n := i) (by omega)
    have a1 : alook [.map (mE AV.str (AV.int .i64) L)] .str (.int .i64 0) false (.map 0) (.str l[i]) = some (.int .i64 ((mGet L l[i]).getD 0)) := by
      rw [alook_mE .str AV.str (AV.int .i64) keyFit_str rfl, getD_int]
    have a2 := amapUpd_mE .str AV.str (AV.int .i64) keyFit_str (h := [.map (mE AV.str (AV.int .i64) L)]) (i := 0) rfl l[i] (IntKind.i64.wrap ((mGet L l[i]).getD 0 + 1))
    obtain ⟨L', hL, e⟩ := ih (i + 1) m (mPut L l[i] (IntKind.i64.wrap ((mGet L l[i]).getD 0 + 1))) (by omega) (by omega)
    refine ⟨L', ?_, by simp only [loop_e,EB_grammar_twice_0,Zaa,Zab,Zac,Zad,Zae,Zag,Zaj,Zak,Zan,Zar,Zau,Zay,Zba,Zbi,Zbk,Zbo,Zbq,Zcb,Zcd,Zce,Zcu,Zcv,Zcw,Zcx,Zda,Zdb,Zdc,List.set_cons_zero,List.set_cons_succ,List.getD_cons_zero,List.getD_cons_succ,Zdd,Zdg,Zen,decide_true,eq_self,h3',ix_eSs _ _ l _ i h3,a1,a2,hw,e]⟩
    rw [hL, e1, mPut_keys, dk]

theorem f_twice (l : List Str) (hm : l.length ≤ maxLen) (H : AHeap) : lim G0.cfg (.func 68) [.vsl false (eSs l)] H = some (.bool (twiceB l), H) := by
  refine lim_flat rfl rfl P_grammar_twice (l.length + 1) (fun h => fz_1 (fz_vsl _ _ _)) ?_ (fun _ => rfl) H
  obtain ⟨L', hL, e⟩ := f_twice_loop l hm (l.length + 1) l.length 0 (l.length + 1) [] (by omega) (by omega)
  have hlen : L'.length = (dk [] l).length := by
    have := congrArg List.length hL
    simpa using this
  have e0 : mE AV.str (AV.int .i64) ([] : List (Str × Int)) = [] := rfl
  rw [z0, e0] at e
  have a1 := alen_mE AV.str (AV.int .i64) (h := [.map (mE AV.str (AV.int .i64) L')]) (i := 0) (L := L') rfl
  have a2 : decide ((L'.length : Int) < l.length) = twiceB l := by
    rw [hlen, twiceB, ← dk_lt]
    congr 1
    simp
  rw [R_grammar_twice]
  simp only [Zab,Zac,Zae,Zaf,Zag,Zai,Zaj,Zak,Zap,Zat,Zay,Zbi,Zbk,Zbq,Zbu,Zcg,Zct,Zcu,Zcv,Zcw,Zda,Zdb,Zdc,List.set_cons_zero,List.set_cons_succ,List.getD_cons_zero,List.getD_cons_succ,Option.map_some,Zdg,Zds,Zep,List.length_cons,List.length_nil,Nat.reduceAdd,Nat.reduceSub,eq_self,true_and,List.length_cons,List.length_nil,List.replicate_succ,List.replicate_zero,List.cons_append,List.nil_append,e,a1,a2,resAll,resVals,resVal,Option.some.injEq,Prod.mk.injEq,true_and,exists_eq']

/-! ### The start rule -/
theorem f_start_1 (r : RuleD) (H : AHeap) : lim G0.cfg (.func 85) [.agg (eRule r)] H = some (.bool (decide (r.left = 0)), H) := by
  refine lim_flat rfl rfl P_grammar_start_1 1 (fun h => fz_1 (fz_rule r h)) ?_ (fun _ => rfl) H
  rw [R_grammar_start_1]
  simp only [Zab,Zac,Zai,Zaj,Zak,Zay,Zaz,Zbi,Zbk,Zbn,Zbo,Zbq,Zby,Zcr,Zct,Zcu,Zcv,Zcw,List.set_cons_zero,List.set_cons_succ,List.getD_cons_zero,List.getD_cons_succ,Option.bind_some,Option.map_some,Zdk,Zdw,Zdy,Zea,List.getElem?_cons_zero,List.length_cons,List.length_nil,if_true,Nat.reduceAdd,Nat.reduceSub,Nat.reduceLeDiff,eq_self,true_and,List.length_cons,List.length_nil,List.replicate_succ,List.replicate_zero,List.cons_append,List.nil_append,aload,acells,getArr,part,List.drop_zero,List.take_succ_cons,List.take_zero,List.cons_append,List.nil_append,List.set_cons_zero,resAll,resVals,resVal,Option.some.injEq,Prod.mk.injEq,true_and,exists_eq']

theorem f_start (g : GramD) (hg : g.Ok) (hr : g.rules ≠ []) (H : AHeap) : lim G0.cfg (.func 69) [.agg (eGram g)] H = some (.bool (startOk g), H) := by
  refine lim_flat rfl rfl P_grammar_start 1 (fun h => fz_1 (fz_gram g h)) ?_ (fun _ => rfl) H
  have t1 := f_there g hg
  obtain ⟨r0, R, hR⟩ : ∃ a b, g.rules = a :: b := by cases e : g.rules with | nil => exact absurd e hr | cons a b => exact ⟨a, b, rfl⟩
  have hlR : R.length ≤ maxLen := by have := hg.rules; rw [hR] at this; simp at this; omega
  have c1 : ∀ H, lim G0.cfg (.func 84) [.vsl false (R.map eRule), .fn (.func 85) [] []] H = some (.bool (R.any fun x => decide (x.left = 0)), H) := fun H =>
    f_ContainsFunc_sRule_Rule (l := R) (g := 85) (caps := []) (caps' := []) (bs := []) (H := H) (p := fun x => decide (x.left = 0)) rfl rfl (fun x _ H => f_start_1 x H) hlR (fun _ => rfl)
  have i0 : ∀ h, aindexAddr h 5 (.vsl false (g.rules.map eRule)) (.int .i64 0) = some (.vptr (eRule r0) 0) := fun h => by rw [hR]; rfl
  have s1 : ∀ h, aslice h 5 (.vsl false (g.rules.map eRule)) (some (.int .i64 1)) none none = some (.vsl false (R.map eRule)) := fun h => by rw [hR]; exact sl_lo h 5 false (eRule r0 :: R.map eRule) .i64 1 (by simp) (headSz_map eRule 5 (fun _ => rfl) R)
  have hall : (R.all fun x => decide (x.left ≠ 0)) = !(R.any fun x => decide (x.left = 0)) := by
    rw [List.all_eq_not_any_not]; congr 2; funext x; simp
  rw [R_grammar_start]
  simp only [startOk,hR]
  rw [hall]
  generalize (R.any fun x => decide (x.left = 0)) = anyb at c1
  by_cases q1 : r0.left = 0
  case neg => simp only [Zab,Zac,Zad,Zai,Zaj,Zak,Zam,Zar,Zay,Zaz,Zba,Zbd,Zbg,Zbi,Zbj,Zbk,Zbl,Zbm,Zbn,Zbo,Zbp,Zbq,Zby,Zcb,Zcr,Zct,Zcu,Zcv,Zcw,Zcx,List.set_cons_zero,List.set_cons_succ,List.getD_cons_zero,List.getD_cons_succ,Option.bind_some,Option.map_some,Zdl,Zdw,Zdy,Zdz,Zea,decide_false,Bool.not_false,List.getElem?_cons_zero,List.getElem?_cons_succ,List.length_cons,List.length_nil,if_true,Nat.reduceAdd,Nat.reduceSub,Nat.reduceLeDiff,Int.reduceNeg,eq_self,and_self,true_and,List.length_cons,List.length_nil,List.replicate_succ,List.replicate_zero,List.cons_append,List.nil_append,aload,acells,getArr,part,astore,putCells,List.all_cons,List.all_nil,cellOk,Bool.and_self,List.drop_zero,List.drop_succ_cons,List.take_succ_cons,List.take_zero,List.take_nil,List.cons_append,List.nil_append,List.set_cons_zero,i0,q1,resAll,resVals,resVal,Option.some.injEq,Prod.mk.injEq,true_and,Bool.false_and,exists_eq']
  case pos =>
    by_cases q2 : (r0.right.length : Int) = 1
    case neg =>
      simp only [Zab,Zac,Zad,Zai,Zaj,Zak,Zam,Zar,Zay,Zaz,Zba,Zbc,Zbd,Zbg,Zbh,Zbi,Zbj,Zbk,Zbl,Zbm,Zbn,Zbo,Zbp,Zbq,Zby,Zcb,Zcg,Zcr,Zct,Zcu,Zcv,Zcw,Zcx,List.set_cons_zero,List.set_cons_succ,List.getD_cons_zero,List.getD_cons_succ,Option.bind_some,Option.map_some,Zdl,Zds,Zdw,Zdy,Zdz,Zea,Zeo,decide_true,decide_false,Bool.not_true,Bool.not_false,List.getElem?_cons_zero,List.getElem?_cons_succ,List.length_cons,List.length_nil,if_true,Nat.reduceAdd,Nat.reduceSub,Nat.reduceLeDiff,Int.reduceNeg,eq_self,and_self,true_and,List.length_cons,List.length_nil,List.replicate_succ,List.replicate_zero,List.cons_append,List.nil_append,aload,acells,getArr,part,astore,putCells,List.all_cons,List.all_nil,cellOk,Bool.and_self,List.drop_zero,List.drop_succ_cons,List.take_succ_cons,List.take_zero,List.take_nil,List.cons_append,List.nil_append,List.set_cons_zero,i0,q1,q2,resAll,resVals,resVal,Option.some.injEq,Prod.mk.injEq,true_and,Bool.false_and,Bool.and_false,exists_eq']
    case pos =>
      have q2' : r0.right.length = 1 := by omega
      obtain ⟨y, hy⟩ : ∃ y, r0.right = [y] := List.length_eq_one_iff.1 q2'
      have i1 : ∀ h, aindexAddr h 1 (.vsl false (eIs r0.right)) (.int .i64 0) = some (.vptr (eI y) 0) := fun h => by rw [hy]; rfl
      have hy0 : r0.right.getD 0 0 = y := by rw [hy]; rfl
      rw [hy0]
      by_cases q3 : (-1 : Int) ≤ y
      case pos =>
        have q3' : ¬ (y < -1) := by omega
        simp only [Zab,Zac,Zad,Zai,Zaj,Zak,Zam,Zar,Zay,Zaz,Zba,Zbc,Zbd,Zbg,Zbh,Zbi,Zbj,Zbk,Zbl,Zbm,Zbn,Zbo,Zbp,Zbq,Zby,Zcb,Zcg,Zcr,Zct,Zcu,Zcv,Zcw,Zcx,List.set_cons_zero,List.set_cons_succ,List.getD_cons_zero,List.getD_cons_succ,Option.bind_some,Option.map_some,Zdj,Zdl,Zds,Zdw,Zdy,Zdz,Zea,Zeo,decide_true,decide_false,Bool.not_true,List.getElem?_cons_zero,List.getElem?_cons_succ,List.length_cons,List.length_nil,if_true,Nat.reduceAdd,Nat.reduceSub,Nat.reduceLeDiff,Int.reduceNeg,eq_self,and_self,true_and,List.length_cons,List.length_nil,List.replicate_succ,List.replicate_zero,List.cons_append,List.nil_append,aload,acells,getArr,part,eI,astore,putCells,List.all_cons,List.all_nil,cellOk,Bool.and_self,List.drop_zero,List.drop_succ_cons,List.take_succ_cons,List.take_zero,List.take_nil,List.cons_append,List.nil_append,List.set_cons_zero,i0,i1,q1,q2,q3,q3',resAll,resVals,resVal,Option.some.injEq,Prod.mk.injEq,true_and,Bool.false_and,Bool.and_false,exists_eq']
      case neg =>
        have q3' : y < -1 := by omega
        cases hs : isSym g y
        · simp only [Zab,Zac,Zad,Zai,Zaj,Zak,Zam,Zar,Zay,Zaz,Zba,Zbc,Zbh,Zbi,Zbj,Zbk,Zbl,Zbm,Zbn,Zbo,Zbp,Zbq,Zbr,Zby,Zcb,Zcg,Zco,Zcp,Zcr,Zct,Zcu,Zcv,Zcw,Zcx,Zcy,Zcz,List.set_cons_zero,List.set_cons_succ,List.getD_cons_zero,List.getD_cons_succ,Option.bind_some,Option.map_some,Zdj,Zdl,Zdq,Zds,Zdw,Zdy,Zdz,Zea,Zeo,decide_true,decide_false,Bool.not_true,Bool.not_false,List.getElem?_cons_zero,List.getElem?_cons_succ,List.length_cons,List.length_nil,if_true,Nat.reduceAdd,Nat.reduceSub,Nat.reduceLeDiff,Int.reduceNeg,eq_self,and_self,true_and,List.length_cons,List.length_nil,List.replicate_succ,List.replicate_zero,List.cons_append,List.nil_append,aload,acells,getArr,part,eI,astore,putCells,List.all_cons,List.all_nil,cellOk,Bool.and_self,List.drop_zero,List.drop_succ_cons,List.take_succ_cons,List.take_zero,List.take_nil,List.cons_append,List.nil_append,List.set_cons_zero,i0,i1,q1,q2,q3,q3',t1,hs,resAll,resVals,resVal,Option.some.injEq,Prod.mk.injEq,true_and,Bool.false_and,Bool.and_false,exists_eq']
        · simp only [Zaa,Zab,Zac,Zad,Zai,Zaj,Zak,Zas,Zay,Zaz,Zba,Zbc,Zbh,Zbi,Zbj,Zbk,Zbl,Zbm,Zbn,Zbo,Zbp,Zbq,Zbr,Zbw,Zby,Zcb,Zcg,Zco,Zcp,Zcr,Zct,Zcu,Zcv,Zcw,Zcx,Zcy,Zcz,List.set_cons_zero,List.set_cons_succ,List.getD_cons_zero,List.getD_cons_succ,Option.bind_some,Option.map_some,Zdj,Zdl,Zdq,Zds,Zdw,Zdy,Zdz,Zea,Zeo,decide_true,decide_false,Bool.not_true,List.getElem?_cons_zero,List.getElem?_cons_succ,List.length_cons,List.length_nil,if_true,Nat.reduceAdd,Nat.reduceSub,Nat.reduceLeDiff,Int.reduceNeg,eq_self,and_self,true_and,List.length_cons,List.length_nil,List.replicate_succ,List.replicate_zero,List.cons_append,List.nil_append,aload,acells,getArr,part,eI,astore,putCells,List.all_cons,List.all_nil,cellOk,Bool.and_self,List.drop_zero,List.drop_succ_cons,List.take_succ_cons,List.take_zero,List.take_nil,List.cons_append,List.nil_append,List.set_cons_zero,i0,i1,q1,q2,q3,q3',t1,hs,s1,c1,Option.map_none,resAll,resVals,resVal,Option.some.injEq,Prod.mk.injEq,true_and,Bool.true_and,exists_eq']

end Go.Proofs.Ytkimloceaihplaa.Ai
