/- Grammars: the program's checks, walked: rules, levels, the whole. -/
import Derived.Test.YtkimloceaihplaapGr2
namespace Go.Proofs.Ytkimloceaihplaa.Ai
open Go Go.Proofs
set_option linter.unusedVariables false
set_option linter.unusedSimpArgs false
set_option maxRecDepth 10000

theorem f_rule_1 (g : GramD) (hg : g.Ok) (s : Int) (H : AHeap) : lim G0.cfg (.func 86) [.int .i64 s, .vptr (eGram g) 0] H = some (.bool (badSym g s), H) := by
  refine lim_flat rfl rfl P_grammar_rule_1 1 (fun h => fz_2 rfl rfl) ?_ (fun _ => rfl) H
  have t1 := f_there g hg s
  rw [R_grammar_rule_1]
  unfold badSym
  cases hs : isSym g s
  · simp only [Zab,Zac,Zai,Zaj,Zak,Zay,Zaz,Zbd,Zbf,Zbg,Zbi,Zbj,Zbk,Zbl,Zbo,Zbr,Zco,Zcp,Zct,Zcu,Zcv,Zcw,Zcy,Zcz,List.set_cons_zero,List.set_cons_succ,List.getD_cons_zero,List.getD_cons_succ,Option.bind_some,Option.map_some,Zdq,Zdz,Bool.not_false,List.length_cons,List.length_nil,if_true,Nat.reduceAdd,Nat.reduceSub,Nat.reduceLeDiff,Int.reduceNeg,eq_self,true_and,List.length_cons,List.length_nil,List.replicate_succ,List.replicate_zero,List.cons_append,List.nil_append,aload,acells,part,List.drop_zero,List.take_succ_cons,List.take_nil,List.cons_append,List.nil_append,List.set_cons_zero,t1,hs,resAll,resVals,resVal,Option.some.injEq,Prod.mk.injEq,true_and,Bool.true_or,exists_eq']
  · by_cases q1 : -1 ≤ s
    · simp only [Zab,Zac,Zai,Zaj,Zak,Zay,Zaz,Zbb,Zbc,Zbg,Zbh,Zbi,Zbj,Zbk,Zbl,Zbo,Zbq,Zbr,Zco,Zcp,Zct,Zcu,Zcv,Zcw,Zcy,Zcz,List.set_cons_zero,List.set_cons_succ,List.getD_cons_zero,List.getD_cons_succ,Option.bind_some,Option.map_some,Zdh,Zdj,Zdq,Zdz,decide_true,Bool.not_true,List.length_cons,List.length_nil,if_true,Nat.reduceAdd,Nat.reduceSub,Nat.reduceLeDiff,Int.reduceNeg,eq_self,true_and,List.length_cons,List.length_nil,List.replicate_succ,List.replicate_zero,List.cons_append,List.nil_append,aload,acells,part,List.drop_zero,List.take_succ_cons,List.take_nil,List.cons_append,List.nil_append,List.set_cons_zero,t1,hs,q1,resAll,resVals,resVal,Option.some.injEq,Prod.mk.injEq,true_and,Bool.true_and,Bool.false_or,exists_eq']
    · simp only [Zab,Zac,Zai,Zaj,Zak,Zay,Zaz,Zbc,Zbe,Zbh,Zbi,Zbj,Zbk,Zbl,Zbo,Zbq,Zbr,Zco,Zcp,Zct,Zcu,Zcv,Zcw,Zcy,Zcz,List.set_cons_zero,List.set_cons_succ,List.getD_cons_zero,List.getD_cons_succ,Option.bind_some,Option.map_some,Zdj,Zdq,Zdz,decide_false,Bool.not_true,List.length_cons,List.length_nil,if_true,Nat.reduceAdd,Nat.reduceSub,Nat.reduceLeDiff,Int.reduceNeg,eq_self,true_and,List.length_cons,List.length_nil,List.replicate_succ,List.replicate_zero,List.cons_append,List.nil_append,aload,acells,part,List.drop_zero,List.take_succ_cons,List.take_nil,List.cons_append,List.nil_append,List.set_cons_zero,t1,hs,q1,resAll,resVals,resVal,Option.some.injEq,Prod.mk.injEq,true_and,Bool.false_and,Bool.or_false,exists_eq']

theorem f_rule (g : GramD) (hg : g.Ok) (x : RuleD) (hx : x.Ok) (ahead : Int) (H : AHeap) : lim G0.cfg (.func 70) [.agg (eGram g), .agg (eRule x), .int .i64 ahead] H = some (.int .i64 (ruleErr g x ahead), H) := by
  refine lim_flat rfl rfl P_grammar_rule 1 (fun h => fz_3 (fz_gram g h) (fz_rule x h) rfl) ?_ (fun _ => rfl) H
  have w1 := f_within
  have hn := hg.nonterms
  rw [maxLen_eq] at hn
  have hw : IntKind.i64.wrap ((g.nonterms.length : Int) - 1) = (g.nonterms.length : Int) - 1 := w64 (by omega) (by omega)
  have c1 : lim G0.cfg (.func 43) [.vsl false (eIs x.right), .fn (.func 86) [] [.ptr 0 0 0 0]] [.arr 0 5 true [eGram g], .arr 0 5 true [eRule x]] = some (.bool (x.right.any (badSym g)), [.arr 0 5 true [eGram g], .arr 0 5 true [eRule x]]) :=
    f_ContainsFunc_sint_int (l := x.right) (g := 86) (caps := [.ptr 0 0 0 0]) (caps' := [.vptr (eGram g) 0]) (bs := [(.vptr (eGram g) 0, false)]) (p := badSym g) rfl rfl (fun s _ H => f_rule_1 g hg s H) hx.right (fun _ => rfl)
  rw [R_grammar_rule]
  by_cases q1 : 0 ≤ x.left
  case neg =>
    have hE : ruleErr g x ahead = 22 := if_pos (by omega)
    simp only [Zab,Zac,Zad,Zai,Zaj,Zak,Zam,Zar,Zay,Zaz,Zbd,Zbg,Zbi,Zbj,Zbk,Zbl,Zbn,Zbo,Zbq,Zbr,Zby,Zcg,Zco,Zcp,Zcr,Zct,Zcu,Zcv,Zcw,Zcy,Zcz,List.set_cons_zero,List.set_cons_succ,List.getD_cons_zero,List.getD_cons_succ,Option.bind_some,Option.map_some,Zde,Zdq,Zds,Zdw,Zdy,Zea,Zep,decide_false,Bool.not_false,List.getElem?_cons_zero,List.getElem?_cons_succ,List.length_cons,List.length_nil,if_true,Nat.reduceAdd,Nat.reduceSub,Nat.reduceLeDiff,eq_self,true_and,List.length_cons,List.length_nil,List.replicate_succ,List.replicate_zero,List.cons_append,List.nil_append,aload,acells,getArr,part,List.drop_zero,List.drop_succ_cons,List.take_succ_cons,List.take_zero,List.cons_append,List.nil_append,List.set_cons_zero,w1,hw,hE,q1,resAll,resVals,resVal,Option.some.injEq,Prod.mk.injEq,true_and,Bool.false_and,exists_eq']
  case pos =>
  by_cases q2 : x.left ≤ (g.nonterms.length : Int) - 1
  case neg =>
    have hE : ruleErr g x ahead = 22 := if_pos (by omega)
    simp only [Zab,Zac,Zad,Zai,Zaj,Zak,Zam,Zar,Zay,Zaz,Zbd,Zbg,Zbi,Zbj,Zbk,Zbl,Zbn,Zbo,Zbq,Zbr,Zby,Zcg,Zco,Zcp,Zcr,Zct,Zcu,Zcv,Zcw,Zcy,Zcz,List.set_cons_zero,List.set_cons_succ,List.getD_cons_zero,List.getD_cons_succ,Option.bind_some,Option.map_some,Zde,Zdq,Zds,Zdw,Zdy,Zea,Zep,decide_true,decide_false,Bool.not_false,List.getElem?_cons_zero,List.getElem?_cons_succ,List.length_cons,List.length_nil,if_true,Nat.reduceAdd,Nat.reduceSub,Nat.reduceLeDiff,eq_self,true_and,List.length_cons,List.length_nil,List.replicate_succ,List.replicate_zero,List.cons_append,List.nil_append,aload,acells,getArr,part,List.drop_zero,List.drop_succ_cons,List.take_succ_cons,List.take_zero,List.cons_append,List.nil_append,List.set_cons_zero,w1,hw,hE,q1,q2,resAll,resVals,resVal,Option.some.injEq,Prod.mk.injEq,true_and,Bool.and_false,exists_eq']
  case pos =>
  by_cases q3 : x.left < ahead
  case pos =>
    have hE : ruleErr g x ahead = 22 := if_pos (by omega)
    simp only [Zab,Zac,Zad,Zai,Zaj,Zak,Zam,Zar,Zay,Zaz,Zbc,Zbd,Zbg,Zbh,Zbi,Zbj,Zbk,Zbl,Zbn,Zbo,Zbq,Zbr,Zby,Zcg,Zco,Zcp,Zcr,Zct,Zcu,Zcv,Zcw,Zcy,Zcz,List.set_cons_zero,List.set_cons_succ,List.getD_cons_zero,List.getD_cons_succ,Option.bind_some,Option.map_some,Zde,Zdg,Zdq,Zds,Zdw,Zdy,Zea,Zep,decide_true,Bool.not_true,List.getElem?_cons_zero,List.getElem?_cons_succ,List.length_cons,List.length_nil,if_true,Nat.reduceAdd,Nat.reduceSub,Nat.reduceLeDiff,eq_self,true_and,List.length_cons,List.length_nil,List.replicate_succ,List.replicate_zero,List.cons_append,List.nil_append,aload,acells,getArr,part,Bool.and_self,List.drop_zero,List.drop_succ_cons,List.take_succ_cons,List.take_zero,List.cons_append,List.nil_append,List.set_cons_zero,w1,hw,hE,q1,q2,q3,resAll,resVals,resVal,Option.some.injEq,Prod.mk.injEq,true_and,exists_eq']
  case neg =>
  by_cases q4 : (32 : Int) < x.right.length
  case pos =>
    have hE : ruleErr g x ahead = 22 := if_pos (by omega)
    simp only [Zab,Zac,Zad,Zai,Zaj,Zak,Zam,Zar,Zay,Zaz,Zbc,Zbh,Zbi,Zbj,Zbk,Zbl,Zbn,Zbo,Zbq,Zbr,Zby,Zcg,Zco,Zcp,Zcr,Zct,Zcu,Zcv,Zcw,Zcy,Zcz,List.set_cons_zero,List.set_cons_succ,List.getD_cons_zero,List.getD_cons_succ,Option.bind_some,Option.map_some,Zde,Zdg,Zdi,Zdq,Zds,Zdw,Zdy,Zea,Zeo,Zep,decide_true,decide_false,Bool.not_true,List.getElem?_cons_zero,List.getElem?_cons_succ,List.length_cons,List.length_nil,if_true,Nat.reduceAdd,Nat.reduceSub,Nat.reduceLeDiff,eq_self,true_and,List.length_cons,List.length_nil,List.replicate_succ,List.replicate_zero,List.cons_append,List.nil_append,aload,acells,getArr,part,Bool.and_self,List.drop_zero,List.drop_succ_cons,List.take_succ_cons,List.take_zero,List.cons_append,List.nil_append,List.set_cons_zero,w1,hw,hE,q1,q2,q3,q4,resAll,resVals,resVal,Option.some.injEq,Prod.mk.injEq,true_and,exists_eq']
  case neg =>
  have hE : ruleErr g x ahead = if x.right.any (badSym g) = true then 21
    else if (x.fields.length : Int) ≠ 0 ∧ (x.fields.length : Int) ≠ x.right.length then 25
    else if x.level < 0 ∨ (g.levels.length : Int) < x.level then 24
    else 0 := if_neg (by omega)
  rw [hE]
  clear hE
  cases q5 : x.right.any (badSym g)
  case true =>
    rw [q5] at c1
    simp only [Zaa,Zab,Zac,Zad,Zai,Zaj,Zak,Zam,Zar,Zas,Zay,Zaz,Zbc,Zbh,Zbi,Zbj,Zbk,Zbl,Zbn,Zbo,Zbq,Zbr,Zbt,Zby,Zcg,Zco,Zcp,Zcr,Zct,Zcu,Zcv,Zcw,Zcy,Zcz,List.set_cons_zero,List.set_cons_succ,List.getD_cons_zero,List.getD_cons_succ,Option.bind_some,Option.map_some,Zde,Zdg,Zdi,Zdq,Zds,Zdw,Zdy,Zea,Zeo,Zep,decide_true,decide_false,Bool.not_true,List.getElem?_cons_zero,List.getElem?_cons_succ,List.length_cons,List.length_nil,if_true,Nat.reduceAdd,Nat.reduceSub,Nat.reduceLeDiff,eq_self,true_and,List.length_cons,List.length_nil,List.replicate_succ,List.replicate_zero,List.cons_append,List.nil_append,aload,acells,getArr,part,Bool.and_self,List.drop_zero,List.drop_succ_cons,List.take_succ_cons,List.take_zero,List.cons_append,List.nil_append,List.set_cons_zero,w1,hw,q1,q2,q3,q4,c1,resAll,resVals,resVal,Option.some.injEq,Prod.mk.injEq,true_and,exists_eq']
  case false =>
  rw [q5] at c1
  simp only [Bool.false_eq_true,if_false]
  by_cases q6 : (x.fields.length : Int) = 0
  case pos =>
    have hE : ¬ ((x.fields.length : Int) ≠ 0 ∧ (x.fields.length : Int) ≠ x.right.length) := by omega
    rw [if_neg hE]
    by_cases q8 : 0 ≤ x.level
    case neg =>
      rw [if_pos (by omega)]
      simp only [Zaa,Zab,Zac,Zad,Zai,Zaj,Zak,Zam,Zar,Zas,Zay,Zaz,Zbc,Zbe,Zbh,Zbi,Zbj,Zbk,Zbl,Zbn,Zbo,Zbq,Zbr,Zbt,Zby,Zcg,Zco,Zcp,Zcr,Zct,Zcu,Zcv,Zcw,Zcy,Zcz,List.set_cons_zero,List.set_cons_succ,List.getD_cons_zero,List.getD_cons_succ,Option.bind_some,Option.map_some,Zde,Zdg,Zdi,Zdl,Zdq,Zds,Zdw,Zdy,Zea,Zeo,Zep,decide_true,decide_false,Bool.not_true,Bool.not_false,List.getElem?_cons_zero,List.getElem?_cons_succ,List.length_cons,List.length_nil,if_true,Nat.reduceAdd,Nat.reduceSub,Nat.reduceLeDiff,eq_self,true_and,List.length_map,List.length_cons,List.length_nil,List.replicate_succ,List.replicate_zero,List.cons_append,List.nil_append,aload,acells,getArr,part,Bool.and_self,List.drop_zero,List.drop_succ_cons,List.take_succ_cons,List.take_zero,List.take_nil,List.cons_append,List.nil_append,List.set_cons_zero,w1,hw,q1,q2,q3,q4,q6,q8,c1,resAll,resVals,resVal,Option.some.injEq,Prod.mk.injEq,true_and,Bool.false_and,exists_eq']
    case pos =>
    by_cases q9 : x.level ≤ (g.levels.length : Int)
    case neg =>
      rw [if_pos (by omega)]
      simp only [Zaa,Zab,Zac,Zad,Zai,Zaj,Zak,Zam,Zar,Zas,Zay,Zaz,Zbc,Zbe,Zbh,Zbi,Zbj,Zbk,Zbl,Zbn,Zbo,Zbq,Zbr,Zbt,Zby,Zcg,Zco,Zcp,Zcr,Zct,Zcu,Zcv,Zcw,Zcy,Zcz,List.set_cons_zero,List.set_cons_succ,List.getD_cons_zero,List.getD_cons_succ,Option.bind_some,Option.map_some,Zde,Zdg,Zdi,Zdl,Zdq,Zds,Zdw,Zdy,Zea,Zeo,Zep,decide_true,decide_false,Bool.not_true,Bool.not_false,List.getElem?_cons_zero,List.getElem?_cons_succ,List.length_cons,List.length_nil,if_true,Nat.reduceAdd,Nat.reduceSub,Nat.reduceLeDiff,eq_self,true_and,List.length_map,List.length_cons,List.length_nil,List.replicate_succ,List.replicate_zero,List.cons_append,List.nil_append,aload,acells,getArr,part,Bool.and_self,List.drop_zero,List.drop_succ_cons,List.take_succ_cons,List.take_zero,List.take_nil,List.cons_append,List.nil_append,List.set_cons_zero,List.length_map,w1,hw,q1,q2,q3,q4,q6,q8,q9,c1,resAll,resVals,resVal,Option.some.injEq,Prod.mk.injEq,true_and,Bool.and_false,exists_eq']
    case pos =>
      rw [if_neg (by omega)]
      simp only [Zaa,Zab,Zac,Zad,Zai,Zaj,Zak,Zas,Zay,Zaz,Zbc,Zbe,Zbh,Zbi,Zbj,Zbk,Zbl,Zbn,Zbo,Zbq,Zbr,Zbt,Zby,Zcg,Zco,Zcp,Zcr,Zct,Zcu,Zcv,Zcw,Zcy,Zcz,List.set_cons_zero,List.set_cons_succ,List.getD_cons_zero,List.getD_cons_succ,Option.bind_some,Option.map_some,Zde,Zdg,Zdi,Zdl,Zdq,Zds,Zdw,Zdy,Zea,Zeo,Zep,decide_true,decide_false,Bool.not_true,List.getElem?_cons_zero,List.getElem?_cons_succ,List.length_cons,List.length_nil,if_true,Nat.reduceAdd,Nat.reduceSub,Nat.reduceLeDiff,eq_self,true_and,List.length_map,List.length_cons,List.length_nil,List.replicate_succ,List.replicate_zero,List.cons_append,List.nil_append,aload,acells,getArr,part,Bool.and_self,List.drop_zero,List.drop_succ_cons,List.take_succ_cons,List.take_zero,List.take_nil,List.cons_append,List.nil_append,List.set_cons_zero,List.length_map,w1,hw,q1,q2,q3,q4,q6,q8,q9,c1,resAll,resVals,resVal,Option.some.injEq,Prod.mk.injEq,true_and,exists_eq']
  case neg =>
  by_cases q7 : (x.fields.length : Int) = x.right.length
  case neg =>
    rw [if_pos ⟨q6, q7⟩]
    simp only [Zaa,Zab,Zac,Zad,Zai,Zaj,Zak,Zam,Zar,Zas,Zay,Zaz,Zbb,Zbc,Zbg,Zbh,Zbi,Zbj,Zbk,Zbl,Zbn,Zbo,Zbq,Zbr,Zbt,Zby,Zcg,Zco,Zcp,Zcr,Zct,Zcu,Zcv,Zcw,Zcy,Zcz,List.set_cons_zero,List.set_cons_succ,List.getD_cons_zero,List.getD_cons_succ,Option.bind_some,Option.map_some,Zde,Zdg,Zdi,Zdl,Zdq,Zds,Zdw,Zdy,Zea,Zeo,Zep,decide_true,decide_false,Bool.not_true,Bool.not_false,List.getElem?_cons_zero,List.getElem?_cons_succ,List.length_cons,List.length_nil,if_true,Nat.reduceAdd,Nat.reduceSub,Nat.reduceLeDiff,eq_self,true_and,List.length_cons,List.length_nil,List.replicate_succ,List.replicate_zero,List.cons_append,List.nil_append,aload,acells,getArr,part,Bool.and_self,List.drop_zero,List.drop_succ_cons,List.take_succ_cons,List.take_zero,List.cons_append,List.nil_append,List.set_cons_zero,w1,hw,q1,q2,q3,q4,q6,q7,c1,resAll,resVals,resVal,Option.some.injEq,Prod.mk.injEq,true_and,exists_eq']
  case pos =>
    have q6' : ¬ (x.right.length : Int) = 0 := by omega
    have hE : ¬ ((x.fields.length : Int) ≠ 0 ∧ (x.fields.length : Int) ≠ x.right.length) := by omega
    rw [if_neg hE]
    by_cases q8 : 0 ≤ x.level
    case neg =>
      rw [if_pos (by omega)]
      simp only [Zaa,Zab,Zac,Zad,Zai,Zaj,Zak,Zam,Zar,Zas,Zay,Zaz,Zbb,Zbc,Zbg,Zbh,Zbi,Zbj,Zbk,Zbl,Zbn,Zbo,Zbq,Zbr,Zbt,Zby,Zcg,Zco,Zcp,Zcr,Zct,Zcu,Zcv,Zcw,Zcy,Zcz,List.set_cons_zero,List.set_cons_succ,List.getD_cons_zero,List.getD_cons_succ,Option.bind_some,Option.map_some,Zde,Zdg,Zdi,Zdl,Zdq,Zds,Zdw,Zdy,Zea,Zeo,Zep,decide_true,decide_false,Bool.not_true,Bool.not_false,List.getElem?_cons_zero,List.getElem?_cons_succ,List.length_cons,List.length_nil,if_true,Nat.reduceAdd,Nat.reduceSub,Nat.reduceLeDiff,eq_self,true_and,List.length_map,List.length_cons,List.length_nil,List.replicate_succ,List.replicate_zero,List.cons_append,List.nil_append,aload,acells,getArr,part,Bool.and_self,List.drop_zero,List.drop_succ_cons,List.take_succ_cons,List.take_zero,List.take_nil,List.cons_append,List.nil_append,List.set_cons_zero,w1,hw,q1,q2,q3,q4,q6',q7,q8,c1,resAll,resVals,resVal,Option.some.injEq,Prod.mk.injEq,true_and,Bool.false_and,exists_eq']
    case pos =>
    by_cases q9 : x.level ≤ (g.levels.length : Int)
    case neg =>
      rw [if_pos (by omega)]
      simp only [Zaa,Zab,Zac,Zad,Zai,Zaj,Zak,Zam,Zar,Zas,Zay,Zaz,Zbb,Zbc,Zbg,Zbh,Zbi,Zbj,Zbk,Zbl,Zbn,Zbo,Zbq,Zbr,Zbt,Zby,Zcg,Zco,Zcp,Zcr,Zct,Zcu,Zcv,Zcw,Zcy,Zcz,List.set_cons_zero,List.set_cons_succ,List.getD_cons_zero,List.getD_cons_succ,Option.bind_some,Option.map_some,Zde,Zdg,Zdi,Zdl,Zdq,Zds,Zdw,Zdy,Zea,Zeo,Zep,decide_true,decide_false,Bool.not_true,Bool.not_false,List.getElem?_cons_zero,List.getElem?_cons_succ,List.length_cons,List.length_nil,if_true,Nat.reduceAdd,Nat.reduceSub,Nat.reduceLeDiff,eq_self,true_and,List.length_map,List.length_cons,List.length_nil,List.replicate_succ,List.replicate_zero,List.cons_append,List.nil_append,aload,acells,getArr,part,Bool.and_self,List.drop_zero,List.drop_succ_cons,List.take_succ_cons,List.take_zero,List.take_nil,List.cons_append,List.nil_append,List.set_cons_zero,List.length_map,w1,hw,q1,q2,q3,q4,q6',q7,q8,q9,c1,resAll,resVals,resVal,Option.some.injEq,Prod.mk.injEq,true_and,Bool.and_false,exists_eq']
    case pos =>
      rw [if_neg (by omega)]
      simp only [Zaa,Zab,Zac,Zad,Zai,Zaj,Zak,Zas,Zay,Zaz,Zbb,Zbc,Zbg,Zbh,Zbi,Zbj,Zbk,Zbl,Zbn,Zbo,Zbq,Zbr,Zbt,Zby,Zcg,Zco,Zcp,Zcr,Zct,Zcu,Zcv,Zcw,Zcy,Zcz,List.set_cons_zero,List.set_cons_succ,List.getD_cons_zero,List.getD_cons_succ,Option.bind_some,Option.map_some,Zde,Zdg,Zdi,Zdl,Zdq,Zds,Zdw,Zdy,Zea,Zeo,Zep,decide_true,decide_false,Bool.not_true,Bool.not_false,List.getElem?_cons_zero,List.getElem?_cons_succ,List.length_cons,List.length_nil,if_true,Nat.reduceAdd,Nat.reduceSub,Nat.reduceLeDiff,eq_self,true_and,List.length_map,List.length_cons,List.length_nil,List.replicate_succ,List.replicate_zero,List.cons_append,List.nil_append,aload,acells,getArr,part,Bool.and_self,List.drop_zero,List.drop_succ_cons,List.take_succ_cons,List.take_zero,List.take_nil,List.cons_append,List.nil_append,List.set_cons_zero,List.length_map,w1,hw,q1,q2,q3,q4,q6',q7,q8,q9,c1,resAll,resVals,resVal,Option.some.injEq,Prod.mk.injEq,true_and,exists_eq']

theorem f_right_loop0 (g : GramD) (hg : g.Ok) (n : Nat) : ∀ (d i m : Nat) (a : Int) (h : AHeap), g.rules.length = i + d → d < m → h[0]? = some (.arr 0 5 true [eGram g]) → ∃ h', h'[0]? = some (.arr 0 5 true [eGram g]) ∧
    loopN (evalCode (lim G0.cfg) n B_grammar_Right_0) m ⟨(.junk :: .ptr 0 0 0 0 :: .junk :: .int .i64 a :: .junk::.junk::.junk::.junk::.junk::.junk::.junk::.junk::.junk::.junk::.junk::.junk::.junk::.junk::.junk::.junk::.junk::.junk::.junk::.junk::.junk::.junk::.junk::.junk::.junk::.junk :: .vsl false (g.rules.map eRule) :: .int .i64 g.rules.length :: .int .i64 i :: .junk::.junk::.junk::.junk::.junk::.junk::.junk::.junk::.junk::.junk::.junk::.junk::.junk::.junk::.junk::.junk::.junk::.junk::.junk::.junk::.junk::.junk::.junk::.junk::.junk::.junk::.junk::.junk::.junk::.junk::.junk::.junk::.junk::.junk::.junk::.junk::.junk::.junk::.junk::.junk::.junk::.junk::.junk::.junk::.junk::.junk::.junk::.junk::.junk::.junk::.junk::.junk::.junk :: []), h⟩ =
      if rulesErr g (g.rules.drop i) a = 0 then some (.exit 1, ⟨(.junk :: .ptr 0 0 0 0 :: .junk::.junk::.junk::.junk::.junk::.junk::.junk::.junk::.junk::.junk::.junk::.junk::.junk::.junk::.junk::.junk::.junk::.junk::.junk::.junk::.junk::.junk::.junk::.junk::.junk::.junk::.junk::.junk::.junk::.junk::.junk::.junk::.junk::.junk::.junk::.junk::.junk::.junk::.junk::.junk::.junk::.junk::.junk::.junk::.junk::.junk::.junk::.junk::.junk::.junk::.junk::.junk::.junk::.junk::.junk::.junk::.junk::.junk::.junk::.junk::.junk::.junk::.junk::.junk::.junk::.junk::.junk::.junk::.junk::.junk::.junk::.junk::.junk::.junk::.junk::.junk::.junk::.junk::.junk::.junk::.junk::.junk::.junk::.junk :: []), h'⟩) else some (.ret, ⟨(.junk::.junk :: .int .i64 (rulesErr g (g.rules.drop i) a) :: .junk::.junk::.junk::.junk::.junk::.junk::.junk::.junk::.junk::.junk::.junk::.junk::.junk::.junk::.junk::.junk::.junk::.junk::.junk::.junk::.junk::.junk::.junk::.junk::.junk::.junk::.junk::.junk::.junk::.junk::.junk::.junk::.junk::.junk::.junk::.junk::.junk::.junk::.junk::.junk::.junk::.junk::.junk::.junk::.junk::.junk::.junk::.junk::.junk::.junk::.junk::.junk::.junk::.junk::.junk::.junk::.junk::.junk::.junk::.junk::.junk::.junk::.junk::.junk::.junk::.junk::.junk::.junk::.junk::.junk::.junk::.junk::.junk::.junk::.junk::.junk::.junk::.junk::.junk::.junk::.junk::.junk::.junk :: []), h'⟩) := by
  have hm := hg.rules
  rw [maxLen_eq] at hm
  intro d
  induction d with
  | zero =>
    intro i m a h h1 h2 hb
    obtain ⟨m, rfl⟩ : ∃ q, m = q + 1 := ⟨m - 1, by omega⟩
    have e1 : g.rules.drop i = [] := List.drop_eq_nil_iff.2 (by omega)
    have h3 : ¬ ((i : Int) < g.rules.length) := by omega
    exact ⟨h, hb, by simp only [loop_e,EB_grammar_Right_0,Zab,Zac,Zad,Zag,Zah,Zaj,Zak,Zal,Zas,Zav,Zay,Zbi,Zbq,Zcu,Zcw,Zda,Zdb,Zdc,List.set_cons_zero,List.set_cons_succ,List.getD_cons_zero,List.getD_cons_succ,Zdg,decide_false,if_true,eq_self,h3,e1,rulesErr]⟩
  | succ d ih =>
    intro i m a h h1 h2 hb
    obtain ⟨m, rfl⟩ : ∃ q, m = q + 1 := ⟨m - 1, by omega⟩
    have h3 : i < g.rules.length := by omega
    have h3' : (i : Int) < g.rules.length := by omega
    have e1 : g.rules.drop i = g.rules[i] :: g.rules.drop (i + 1) := List.drop_eq_getElem_cons h3
    have hw := w64s (n := i) (by omega)
    have hr := f_rule g hg g.rules[i] (hg.rule _ (List.getElem_mem h3)) a
    have hb2 := get_app hb [.arr 0 5 true [eRule g.rules[i]]]
    by_cases q : ruleErr g g.rules[i] a = 0
    · obtain ⟨h', hb', e⟩ := ih (i + 1) m (g.rules[i]).left (h ++ [.arr 0 5 true [eRule g.rules[i]]]) (by omega) (by omega) hb2
      refine ⟨h', hb', ?_⟩
      have e2 : rulesErr g (g.rules.drop i) a = rulesErr g (g.rules.drop (i + 1)) (g.rules[i]).left := by rw [e1]; simp [rulesErr, q]
      rw [e2]
      simp only [loop_e,EB_grammar_Right_0,Zaa,Zab,Zac,Zad,Zae,Zag,Zaj,Zak,Zan,Zar,Zas,Zau,Zay,Zaz,Zba,Zbi,Zbk,Zbm,Zbo,Zbp,Zbq,Zby,Zcb,Zco,Zcp,Zcu,Zcv,Zcw,Zcx,Zcy,Zcz,Zda,Zdb,Zdc,List.set_cons_zero,List.set_cons_succ,List.getD_cons_zero,List.getD_cons_succ,Option.bind_some,Zdd,Zdg,Zdl,Zdw,Zdy,Zdz,Zea,decide_true,Bool.not_true,List.getElem?_cons_zero,List.length_cons,List.length_nil,if_true,Nat.reduceAdd,Nat.reduceLeDiff,eq_self,and_self,aload,acells,getArr,part,astore,putCells,get_new,set_new,List.all_cons,List.all_nil,cellOk,Bool.and_self,List.drop_zero,List.drop_succ_cons,List.take_succ_cons,List.take_zero,List.take_nil,List.cons_append,List.nil_append,List.set_cons_zero,h3',ix_map eRule _ 5 _ g.rules _ i h3 rfl,hw,hb2,hr,q,e]
    · refine ⟨h ++ [.arr 0 5 true [eRule g.rules[i]]], hb2, ?_⟩
      have e2 : rulesErr g (g.rules.drop i) a = ruleErr g g.rules[i] a := by rw [e1]; simp [rulesErr, q]
      rw [e2, if_neg q]
      simp only [loop_e,EB_grammar_Right_0,Zaa,Zab,Zac,Zad,Zae,Zag,Zai,Zaj,Zak,Zam,Zao,Zar,Zaw,Zay,Zaz,Zba,Zbi,Zbk,Zbm,Zbo,Zbp,Zbq,Zcb,Zco,Zcp,Zcu,Zcv,Zcw,Zcx,Zcy,Zcz,Zda,Zdb,Zdc,List.set_cons_zero,List.set_cons_succ,List.getD_cons_zero,List.getD_cons_succ,Option.bind_some,Zdg,Zdl,Zdz,Zea,decide_true,decide_false,Bool.not_false,List.getElem?_cons_zero,List.length_cons,List.length_nil,if_true,Nat.reduceAdd,Nat.reduceLeDiff,eq_self,and_self,aload,acells,getArr,part,astore,putCells,get_new,set_new,List.all_cons,List.all_nil,cellOk,Bool.and_self,List.drop_zero,List.drop_succ_cons,List.take_succ_cons,List.take_zero,List.take_nil,List.cons_append,List.nil_append,List.set_cons_zero,h3',ix_map eRule _ 5 _ g.rules _ i h3 rfl,hb2,hr,q]

/-- The terms that have come: in the map and in the list. -/
def SameKeys (L : List (Int × Int)) (seen : List Int) : Prop := ∀ t, (mGet L t).getD 0 = if t ∈ seen then 1 else 0

theorem f_right_loop2 (g : GramD) (hg : g.Ok) (n : Nat) (ts : List Int) (ht : ts.length ≤ maxLen) (x1 x2 x3 : AV) (i1 : Nat) (hi1 : i1 ≠ 0) : ∀ (d i m : Nat) (L : List (Int × Int)) (seen : List Int) (h : AHeap), ts.length = i + d → d < m → SameKeys L seen →
    h[0]? = some (.arr 0 5 true [eGram g]) → h[i1]? = some (.map (mE (AV.int .i64) (AV.int .i64) L)) →
    match termsGo g.terms.length (ts.drop i) seen with
    | some s' => ∃ L' h', SameKeys L' s' ∧ h'[0]? = some (.arr 0 5 true [eGram g]) ∧ h'[i1]? = some (.map (mE (AV.int .i64) (AV.int .i64) L')) ∧
      loopN (evalCode (lim G0.cfg) n B_grammar_Right_2) m ⟨(.junk :: .ptr 0 0 0 0 :: .junk::.junk::.junk::.junk::.junk :: .map i1 :: .junk::.junk::.junk::.junk::.junk::.junk::.junk::.junk::.junk::.junk::.junk::.junk::.junk::.junk::.junk::.junk::.junk::.junk::.junk::.junk::.junk::.junk::.junk::.junk::.junk::.junk::.junk::.junk::.junk::.junk::.junk::.junk::.junk::.junk::.junk::.junk::.junk::.junk::.junk::.junk :: x1 :: x2 :: x3 :: .junk::.junk::.junk::.junk::.junk::.junk::.junk::.junk::.junk::.junk::.junk::.junk :: .vsl false (eIs ts) :: .int .i64 ts.length :: .int .i64 i :: .junk::.junk::.junk::.junk::.junk::.junk::.junk::.junk::.junk::.junk::.junk::.junk::.junk::.junk::.junk::.junk::.junk::.junk::.junk::.junk :: []), h⟩ =
        some (.exit 5, ⟨(.junk :: .ptr 0 0 0 0 :: .junk::.junk::.junk::.junk::.junk :: .map i1 :: .junk::.junk::.junk::.junk::.junk::.junk::.junk::.junk::.junk::.junk::.junk::.junk::.junk::.junk::.junk::.junk::.junk::.junk::.junk::.junk::.junk::.junk::.junk::.junk::.junk::.junk::.junk::.junk::.junk::.junk::.junk::.junk::.junk::.junk::.junk::.junk::.junk::.junk::.junk::.junk :: x1 :: x2 :: x3 :: .junk::.junk::.junk::.junk::.junk::.junk::.junk::.junk::.junk::.junk::.junk::.junk::.junk::.junk::.junk::.junk::.junk::.junk::.junk::.junk::.junk::.junk::.junk::.junk::.junk::.junk::.junk::.junk::.junk::.junk::.junk::.junk::.junk::.junk::.junk :: []), h'⟩)
    | none => ∃ h', loopN (evalCode (lim G0.cfg) n B_grammar_Right_2) m ⟨(.junk :: .ptr 0 0 0 0 :: .junk::.junk::.junk::.junk::.junk :: .map i1 :: .junk::.junk::.junk::.junk::.junk::.junk::.junk::.junk::.junk::.junk::.junk::.junk::.junk::.junk::.junk::.junk::.junk::.junk::.junk::.junk::.junk::.junk::.junk::.junk::.junk::.junk::.junk::.junk::.junk::.junk::.junk::.junk::.junk::.junk::.junk::.junk::.junk::.junk::.junk::.junk :: x1 :: x2 :: x3 :: .junk::.junk::.junk::.junk::.junk::.junk::.junk::.junk::.junk::.junk::.junk::.junk :: .vsl false (eIs ts) :: .int .i64 ts.length :: .int .i64 i :: .junk::.junk::.junk::.junk::.junk::.junk::.junk::.junk::.junk::.junk::.junk::.junk::.junk::.junk::.junk::.junk::.junk::.junk::.junk::.junk :: []), h⟩ =
        some (.ret, ⟨(.junk::.junk :: .int .i64 24 :: .junk::.junk::.junk::.junk::.junk::.junk::.junk::.junk::.junk::.junk::.junk::.junk::.junk::.junk::.junk::.junk::.junk::.junk::.junk::.junk::.junk::.junk::.junk::.junk::.junk::.junk::.junk::.junk::.junk::.junk::.junk::.junk::.junk::.junk::.junk::.junk::.junk::.junk::.junk::.junk::.junk::.junk::.junk::.junk::.junk::.junk::.junk::.junk::.junk::.junk::.junk::.junk::.junk::.junk::.junk::.junk::.junk::.junk::.junk::.junk::.junk::.junk::.junk::.junk::.junk::.junk::.junk::.junk::.junk::.junk::.junk::.junk::.junk::.junk::.junk::.junk::.junk::.junk::.junk::.junk::.junk::.junk::.junk :: []), h'⟩) := by
  rw [maxLen_eq] at ht
  have hT := hg.terms
  rw [maxLen_eq] at hT
  have w1 := f_within
  have hwT : IntKind.i64.wrap ((g.terms.length : Int) - 1) = (g.terms.length : Int) - 1 := w64 (by omega) (by omega)
  intro d
  induction d with
  | zero =>
    intro i m L seen h h1 h2 hs hb hl
    obtain ⟨m, rfl⟩ : ∃ q, m = q + 1 := ⟨m - 1, by omega⟩
    have e1 : ts.drop i = [] := List.drop_eq_nil_iff.2 (by omega)
    have h3 : ¬ ((i : Int) < ts.length) := by omega
    rw [e1]
    exact ⟨L, h, hs, hb, hl, by simp only [loop_e,EB_grammar_Right_2,Zab,Zac,Zad,Zag,Zah,Zaj,Zak,Zal,Zas,Zav,Zay,Zbi,Zbq,Zcu,Zcw,Zda,Zdb,Zdc,List.set_cons_zero,List.set_cons_succ,List.getD_cons_zero,List.getD_cons_succ,Zdg,decide_false,eq_self,h3]⟩
  | succ d ih =>
    intro i m L seen h h1 h2 hs hb hl
    obtain ⟨m, rfl⟩ : ∃ q, m = q + 1 := ⟨m - 1, by omega⟩
    have h3 : i < ts.length := by omega
    have h3' : (i : Int) < ts.length := by omega
    have e1 : ts.drop i = ts[i] :: ts.drop (i + 1) := List.drop_eq_getElem_cons h3
    have hw := w64s (n := i) (by omega)
    have a1 : alook h .int (.int .i64 0) false (.map i1) (.int .i64 ts[i]) = some (.int .i64 ((mGet L ts[i]).getD 0)) := by
      rw [alook_mE .int (AV.int .i64) (AV.int .i64) keyFit_int hl, getD_int]
    have a2 := amapUpd_mE .int (AV.int .i64) (AV.int .i64) keyFit_int hl ts[i] 1
    rw [e1]
    simp only [termsGo]
    by_cases q1 : (2 : Int) ≤ ts[i]
    case neg =>
      rw [if_pos (by omega)]
      exact ⟨h, by simp only [loop_e,EB_grammar_Right_2,Zaa,Zab,Zac,Zad,Zae,Zag,Zai,Zaj,Zak,Zam,Zao,Zar,Zaw,Zay,Zaz,Zbd,Zbg,Zbi,Zbj,Zbk,Zbl,Zbo,Zbq,Zbr,Zby,Zcb,Zcg,Zco,Zcp,Zcu,Zcv,Zcw,Zcy,Zcz,Zda,Zdb,Zdc,List.set_cons_zero,List.set_cons_succ,List.getD_cons_zero,List.getD_cons_succ,Option.bind_some,Zde,Zdg,Zdq,Zds,Zdw,Zdy,Zep,decide_true,decide_false,Bool.not_false,List.getElem?_cons_zero,List.length_cons,List.length_nil,if_true,Nat.reduceAdd,Nat.reduceLeDiff,eq_self,aload,acells,getArr,part,eI,List.drop_zero,List.take_succ_cons,List.take_zero,List.take_nil,List.cons_append,List.nil_append,List.set_cons_zero,h3',ix_eIs _ _ ts _ i h3,hb,w1,hwT,q1,Bool.false_and]⟩
    case pos =>
    by_cases q2 : ts[i] ≤ (g.terms.length : Int) - 1
    case neg =>
      rw [if_pos (by omega)]
      exact ⟨h, by simp only [loop_e,EB_grammar_Right_2,Zaa,Zab,Zac,Zad,Zae,Zag,Zai,Zaj,Zak,Zam,Zao,Zar,Zaw,Zay,Zaz,Zbd,Zbg,Zbi,Zbj,Zbk,Zbl,Zbo,Zbq,Zbr,Zby,Zcb,Zcg,Zco,Zcp,Zcu,Zcv,Zcw,Zcy,Zcz,Zda,Zdb,Zdc,List.set_cons_zero,List.set_cons_succ,List.getD_cons_zero,List.getD_cons_succ,Option.bind_some,Zde,Zdg,Zdq,Zds,Zdw,Zdy,Zep,decide_true,decide_false,Bool.not_false,List.getElem?_cons_zero,List.length_cons,List.length_nil,if_true,Nat.reduceAdd,Nat.reduceLeDiff,eq_self,aload,acells,getArr,part,eI,List.drop_zero,List.take_succ_cons,List.take_zero,List.take_nil,List.cons_append,List.nil_append,List.set_cons_zero,h3',ix_eIs _ _ ts _ i h3,hb,w1,hwT,q1,q2,Bool.and_false]⟩
    case pos =>
    have hsi := hs ts[i]
    by_cases q3 : ts[i] ∈ seen
    case pos =>
      rw [if_pos q3] at hsi
      rw [if_pos (.inr (.inr q3))]
      exact ⟨h, by simp only [loop_e,EB_grammar_Right_2,Zaa,Zab,Zac,Zad,Zae,Zag,Zai,Zaj,Zak,Zam,Zao,Zar,Zaw,Zay,Zaz,Zbc,Zbh,Zbi,Zbj,Zbk,Zbl,Zbo,Zbq,Zbr,Zby,Zcb,Zcd,Zcg,Zco,Zcp,Zcu,Zcv,Zcw,Zcy,Zcz,Zda,Zdb,Zdc,List.set_cons_zero,List.set_cons_succ,List.getD_cons_zero,List.getD_cons_succ,Option.bind_some,Zde,Zdg,Zdi,Zdq,Zds,Zdw,Zdy,Zep,decide_true,Bool.not_true,List.getElem?_cons_zero,List.length_cons,List.length_nil,if_true,Nat.reduceAdd,Nat.reduceLeDiff,Int.reduceLT,eq_self,aload,acells,getArr,part,eI,Bool.and_self,List.drop_zero,List.take_succ_cons,List.take_zero,List.take_nil,List.cons_append,List.nil_append,List.set_cons_zero,h3',ix_eIs _ _ ts _ i h3,hb,w1,hwT,q1,q2,a1,hsi]⟩
    case neg =>
    rw [if_neg q3] at hsi
    rw [if_neg (by rintro (h | h | h); omega; omega; exact q3 h)]
    have hs' : SameKeys (mPut L ts[i] 1) (ts[i] :: seen) := fun t => by
      rw [mGet_put]
      by_cases e : t = ts[i]
      · simp [e]
      · simp only [e,if_false,List.mem_cons,false_or]; exact hs t
    have hb' : (h.set i1 (.map (mE (AV.int .i64) (AV.int .i64) (mPut L ts[i] 1))))[0]? = some (.arr 0 5 true [eGram g]) := by
      rw [List.getElem?_set_ne hi1]; exact hb
    have hl' : (h.set i1 (.map (mE (AV.int .i64) (AV.int .i64) (mPut L ts[i] 1))))[i1]? = some (.map (mE (AV.int .i64) (AV.int .i64) (mPut L ts[i] 1))) :=
      List.getElem?_set_self (List.getElem?_eq_some_iff.1 hl).1
    have := ih (i + 1) m (mPut L ts[i] 1) (ts[i] :: seen) _ (by omega) (by omega) hs' hb' hl'
    have hstep : loopN (evalCode (lim G0.cfg) n B_grammar_Right_2) (m + 1) ⟨(.junk :: .ptr 0 0 0 0 :: .junk::.junk::.junk::.junk::.junk :: .map i1 :: .junk::.junk::.junk::.junk::.junk::.junk::.junk::.junk::.junk::.junk::.junk::.junk::.junk::.junk::.junk::.junk::.junk::.junk::.junk::.junk::.junk::.junk::.junk::.junk::.junk::.junk::.junk::.junk::.junk::.junk::.junk::.junk::.junk::.junk::.junk::.junk::.junk::.junk::.junk::.junk :: x1 :: x2 :: x3 :: .junk::.junk::.junk::.junk::.junk::.junk::.junk::.junk::.junk::.junk::.junk::.junk :: .vsl false (eIs ts) :: .int .i64 ts.length :: .int .i64 i :: .junk::.junk::.junk::.junk::.junk::.junk::.junk::.junk::.junk::.junk::.junk::.junk::.junk::.junk::.junk::.junk::.junk::.junk::.junk::.junk :: []), h⟩ =
        loopN (evalCode (lim G0.cfg) n B_grammar_Right_2) m ⟨(.junk :: .ptr 0 0 0 0 :: .junk::.junk::.junk::.junk::.junk :: .map i1 :: .junk::.junk::.junk::.junk::.junk::.junk::.junk::.junk::.junk::.junk::.junk::.junk::.junk::.junk::.junk::.junk::.junk::.junk::.junk::.junk::.junk::.junk::.junk::.junk::.junk::.junk::.junk::.junk::.junk::.junk::.junk::.junk::.junk::.junk::.junk::.junk::.junk::.junk::.junk::.junk :: x1 :: x2 :: x3 :: .junk::.junk::.junk::.junk::.junk::.junk::.junk::.junk::.junk::.junk::.junk::.junk :: .vsl false (eIs ts) :: .int .i64 ts.length :: .int .i64 ((i + 1 : Nat) : Int) :: .junk::.junk::.junk::.junk::.junk::.junk::.junk::.junk::.junk::.junk::.junk::.junk::.junk::.junk::.junk::.junk::.junk::.junk::.junk::.junk :: []), h.set i1 (.map (mE (AV.int .i64) (AV.int .i64) (mPut L ts[i] 1)))⟩ := by
      simp only [loop_e,EB_grammar_Right_2,Zaa,Zab,Zac,Zad,Zae,Zag,Zaj,Zak,Zan,Zar,Zas,Zau,Zay,Zaz,Zba,Zbc,Zbh,Zbi,Zbj,Zbk,Zbl,Zbo,Zbq,Zbr,Zby,Zcb,Zcd,Zce,Zcg,Zco,Zcp,Zcu,Zcv,Zcw,Zcx,Zcy,Zcz,Zda,Zdb,Zdc,List.set_cons_zero,List.set_cons_succ,List.getD_cons_zero,List.getD_cons_succ,Option.bind_some,Zdd,Zde,Zdg,Zdi,Zdq,Zds,Zdw,Zdy,Zep,decide_true,decide_false,Bool.not_true,List.getElem?_cons_zero,List.length_cons,List.length_nil,if_true,Nat.reduceAdd,Nat.reduceLeDiff,Int.reduceLT,eq_self,aload,acells,getArr,part,eI,Bool.and_self,List.drop_zero,List.take_succ_cons,List.take_zero,List.take_nil,List.cons_append,List.nil_append,List.set_cons_zero,h3',ix_eIs _ _ ts _ i h3,hb,w1,hwT,q1,q2,a1,a2,hsi,hw]
    simp only [hstep]
    exact this
end Go.Proofs.Ytkimloceaihplaa.Ai
