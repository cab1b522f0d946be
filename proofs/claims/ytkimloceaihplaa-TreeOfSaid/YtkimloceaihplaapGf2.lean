/- Grammars: the reference's checks, walked: start rule, rules. -/
import Derived.Test.YtkimloceaihplaapGf1
namespace Go.Proofs.Ytkimloceaihplaa.Ai
open Go Go.Proofs
set_option linter.unusedVariables false
set_option linter.unusedSimpArgs false
set_option maxRecDepth 10000
set_option maxHeartbeats 4000000

theorem r_start_loop (g : GramD) (hg : g.Ok) (n : Nat) (h : AHeap) (hb : h[0]? = some (.arr 0 5 true [eGram g])) : ∀ (d i m : Nat), g.rules.length = i + d → d < m →
    loopN (evalCode (lim G0.cfg) n B_r15_start_0) m ⟨(.junk :: .ptr 0 0 0 0 :: .junk::.junk :: .int .i64 i :: .junk::.junk::.junk::.junk::.junk::.junk::.junk::.junk::.junk::.junk::.junk::.junk::.junk::.junk::.junk::.junk::.junk::.junk::.junk::.junk::.junk::.junk::.junk::.junk::.junk::.junk::.junk::.junk::.junk::.junk::.junk::.junk::.junk::.junk::.junk::.junk::.junk::.junk::.junk::.junk::.junk::.junk::.junk :: []), h⟩ =
      bif (g.rules.drop i).any (fun x => decide (x.left = 0)) then some (.ret, ⟨(.junk::.junk :: .bool true::.junk::.junk::.junk::.junk::.junk::.junk::.junk::.junk::.junk::.junk::.junk::.junk::.junk::.junk::.junk::.junk::.junk::.junk::.junk::.junk::.junk::.junk::.junk::.junk::.junk::.junk::.junk::.junk::.junk::.junk::.junk::.junk::.junk::.junk::.junk::.junk::.junk::.junk::.junk::.junk::.junk::.junk::.junk::.junk::.junk :: []), h⟩) else some (.exit 0, ⟨(.junk::.junk::.junk::.junk::.junk::.junk::.junk::.junk::.junk::.junk::.junk::.junk::.junk::.junk::.junk::.junk::.junk::.junk::.junk::.junk::.junk::.junk::.junk::.junk::.junk::.junk::.junk::.junk::.junk::.junk::.junk::.junk::.junk::.junk::.junk::.junk::.junk::.junk::.junk::.junk::.junk::.junk::.junk::.junk::.junk::.junk::.junk::.junk :: []), h⟩) := by
  have hm := hg.rules
  rw [maxLen_eq] at hm
  intro d
  induction d with
  | zero =>
    intro i m h1 h2
    obtain ⟨m, rfl⟩ : ∃ q, m = q + 1 := ⟨m - 1, by omega⟩
    have e1 : g.rules.drop i = [] := List.drop_eq_nil_iff.2 (by omega)
    have h3 : ¬ ((i : Int) < g.rules.length) := by omega
    simp only [loop_e,EB_r15_start_0,Zab,Zac,Zad,Zag,Zah,Zaj,Zak,Zal,Zas,Zav,Zay,Zbi,Zbk,Zbo,Zbq,Zby,Zcg,Zcu,Zcw,Zdb,Zdc,List.set_cons_zero,List.set_cons_succ,List.getD_cons_zero,List.getD_cons_succ,Option.bind_some,Zdg,Zds,Zdw,Zdy,decide_false,List.getElem?_cons_zero,List.length_cons,List.length_nil,if_true,Nat.reduceAdd,Nat.reduceLeDiff,eq_self,cond_false,List.length_map,aload,acells,getArr,part,List.drop_zero,List.drop_succ_cons,List.take_succ_cons,List.take_zero,List.set_cons_zero,List.length_map,hb,h3,e1,List.any_nil]
  | succ d ih =>
    intro i m h1 h2
    obtain ⟨m, rfl⟩ : ∃ q, m = q + 1 := ⟨m - 1, by omega⟩
    have h3 : i < g.rules.length := by omega
    have h3' : (i : Int) < g.rules.length := by omega
    have e1 : g.rules.drop i = g.rules[i] :: g.rules.drop (i + 1) := List.drop_eq_getElem_cons h3
    have hw := w64s (n := i) (by omega)
    by_cases q : (g.rules[i]).left = 0
    · simp only [loop_e,EB_r15_start_0,Zaa,Zab,Zac,Zad,Zae,Zag,Zai,Zaj,Zak,Zam,Zao,Zar,Zaw,Zay,Zbi,Zbk,Zbo,Zbq,Zby,Zcb,Zcg,Zcu,Zcv,Zcw,Zda,Zdb,Zdc,List.set_cons_zero,List.set_cons_succ,List.getD_cons_zero,List.getD_cons_succ,Option.bind_some,Zdg,Zdk,Zds,Zdw,Zdx,Zdy,decide_true,List.getElem?_cons_zero,List.length_cons,List.length_nil,if_true,Nat.reduceAdd,Nat.reduceLeDiff,eq_self,cond_true,List.length_map,aload,acells,getArr,part,List.drop_zero,List.drop_succ_cons,List.take_succ_cons,List.take_zero,List.set_cons_zero,List.length_map,hb,h3',ix_map eRule _ 5 _ g.rules _ i h3 rfl,e1,List.any_cons,q,Bool.true_or]
    · simp only [loop_e,EB_r15_start_0,Zaa,Zab,Zac,Zad,Zae,Zag,Zaj,Zak,Zan,Zar,Zas,Zau,Zay,Zbi,Zbk,Zbo,Zbq,Zby,Zcb,Zcg,Zcu,Zcv,Zcw,Zda,Zdb,Zdc,List.set_cons_zero,List.set_cons_succ,List.getD_cons_zero,List.getD_cons_succ,Option.bind_some,Zdd,Zdg,Zdk,Zds,Zdw,Zdx,Zdy,decide_true,decide_false,List.getElem?_cons_zero,List.length_cons,List.length_nil,if_true,Nat.reduceAdd,Nat.reduceLeDiff,eq_self,List.length_map,aload,acells,getArr,part,List.drop_zero,List.drop_succ_cons,List.take_succ_cons,List.take_zero,List.set_cons_zero,List.length_map,hb,h3',ix_map eRule _ 5 _ g.rules _ i h3 rfl,e1,List.any_cons,q,hw,ih (i + 1) m (by omega) (by omega),Bool.false_or]

theorem r_start (g : GramD) (hg : g.Ok) (hr : g.rules ≠ []) (H : AHeap) : lim G0.cfg (.func 64) [.agg (eGram g)] H = some (.bool (!startOk g), H) := by
  refine lim_flat rfl rfl P_r15_start (g.rules.length + 1) (fun h => fz_1 (fz_gram g h)) ?_ (fun _ => rfl) H
  have t1 := f_Is g hg
  obtain ⟨r0, R, hR⟩ : ∃ a b, g.rules = a :: b := by cases e : g.rules with | nil => exact absurd e hr | cons a b => exact ⟨a, b, rfl⟩
  have e := fun x : AObj => r_start_loop g hg (g.rules.length + 1) [.arr 0 5 true [eGram g], x] rfl R.length 1 (g.rules.length + 1) (by rw [hR]; simp; omega) (by rw [hR]; simp; omega)
  have e1 : g.rules.drop 1 = R := by rw [hR]; rfl
  have z1 : ((1 : Nat) : Int) = 1 := rfl
  simp only [e1,z1] at e
  have i0 : ∀ h, aindexAddr h 5 (.vsl false (g.rules.map eRule)) (.int .i64 0) = some (.vptr (eRule r0) 0) := fun h => by rw [hR]; rfl
  have hall : (R.all fun x => decide (x.left ≠ 0)) = !(R.any fun x => decide (x.left = 0)) := by
    rw [List.all_eq_not_any_not]; congr 2; funext x; simp
  rw [R_r15_start]
  simp only [startOk,hR]
  rw [hall]
  simp only [← hR]
  generalize (R.any fun x => decide (x.left = 0)) = anyb at e
  by_cases q1 : r0.left = 0
  case neg => simp only [Zab,Zac,Zad,Zai,Zaj,Zak,Zam,Zar,Zay,Zaz,Zba,Zbd,Zbg,Zbi,Zbj,Zbk,Zbl,Zbm,Zbn,Zbo,Zbp,Zbq,Zby,Zcb,Zcr,Zct,Zcu,Zcv,Zcw,Zcx,List.set_cons_zero,List.set_cons_succ,List.getD_cons_zero,List.getD_cons_succ,Option.bind_some,Option.map_some,Zdl,Zdw,Zdy,Zdz,Zea,decide_false,Bool.not_false,List.getElem?_cons_zero,List.getElem?_cons_succ,List.length_cons,List.length_nil,if_true,Nat.reduceAdd,Nat.reduceSub,Nat.reduceLeDiff,Int.reduceNeg,eq_self,and_self,true_and,List.length_cons,List.length_nil,List.replicate_succ,List.replicate_zero,List.cons_append,List.nil_append,aload,acells,getArr,part,astore,putCells,List.all_cons,List.all_nil,cellOk,Bool.and_self,List.drop_zero,List.drop_succ_cons,List.take_succ_cons,List.take_zero,List.take_nil,List.cons_append,List.nil_append,List.set_cons_zero,i0,q1,resAll,resVals,resVal,Option.some.injEq,Prod.mk.injEq,true_and,Bool.false_and,exists_eq']
  case pos =>
  by_cases q2 : (r0.right.length : Int) = 1
  case neg => simp only [Zab,Zac,Zad,Zai,Zaj,Zak,Zam,Zar,Zay,Zaz,Zba,Zbc,Zbd,Zbg,Zbh,Zbi,Zbj,Zbk,Zbl,Zbm,Zbn,Zbo,Zbp,Zbq,Zby,Zcb,Zcg,Zcr,Zct,Zcu,Zcv,Zcw,Zcx,List.set_cons_zero,List.set_cons_succ,List.getD_cons_zero,List.getD_cons_succ,Option.bind_some,Option.map_some,Zdl,Zds,Zdw,Zdy,Zdz,Zea,Zeo,decide_true,decide_false,Bool.not_true,Bool.not_false,List.getElem?_cons_zero,List.getElem?_cons_succ,List.length_cons,List.length_nil,if_true,Nat.reduceAdd,Nat.reduceSub,Nat.reduceLeDiff,Int.reduceNeg,eq_self,and_self,true_and,List.length_cons,List.length_nil,List.replicate_succ,List.replicate_zero,List.cons_append,List.nil_append,aload,acells,getArr,part,astore,putCells,List.all_cons,List.all_nil,cellOk,Bool.and_self,List.drop_zero,List.drop_succ_cons,List.take_succ_cons,List.take_zero,List.take_nil,List.cons_append,List.nil_append,List.set_cons_zero,i0,q1,q2,resAll,resVals,resVal,Option.some.injEq,Prod.mk.injEq,true_and,Bool.false_and,Bool.and_false,exists_eq']
  case pos =>
  obtain ⟨y, hy⟩ : ∃ y, r0.right = [y] := List.length_eq_one_iff.1 (by omega)
  have i1 : ∀ h, aindexAddr h 1 (.vsl false (eIs r0.right)) (.int .i64 0) = some (.vptr (eI y) 0) := fun h => by rw [hy]; rfl
  have hy0 : r0.right.getD 0 0 = y := by rw [hy]; rfl
  rw [hy0]
  by_cases q3 : (-1 : Int) ≤ y
  case pos =>
    have q3' : ¬ (y < -1) := by omega
    simp only [Zab,Zac,Zad,Zai,Zaj,Zak,Zam,Zar,Zay,Zaz,Zba,Zbc,Zbd,Zbg,Zbh,Zbi,Zbj,Zbk,Zbl,Zbm,Zbn,Zbo,Zbp,Zbq,Zby,Zcb,Zcg,Zcr,Zct,Zcu,Zcv,Zcw,Zcx,List.set_cons_zero,List.set_cons_succ,List.getD_cons_zero,List.getD_cons_succ,Option.bind_some,Option.map_some,Zdj,Zdl,Zds,Zdw,Zdy,Zdz,Zea,Zeo,decide_true,decide_false,Bool.not_true,Bool.not_false,List.getElem?_cons_zero,List.getElem?_cons_succ,List.length_cons,List.length_nil,if_true,Nat.reduceAdd,Nat.reduceSub,Nat.reduceLeDiff,Int.reduceNeg,eq_self,and_self,true_and,List.length_cons,List.length_nil,List.replicate_succ,List.replicate_zero,List.cons_append,List.nil_append,aload,acells,getArr,part,eI,astore,putCells,List.all_cons,List.all_nil,cellOk,Bool.and_self,List.drop_zero,List.drop_succ_cons,List.take_succ_cons,List.take_zero,List.take_nil,List.cons_append,List.nil_append,List.set_cons_zero,i0,i1,q1,q2,q3,q3',resAll,resVals,resVal,Option.some.injEq,Prod.mk.injEq,true_and,Bool.false_and,Bool.and_false,exists_eq']
  case neg =>
  have q3' : y < -1 := by omega
  cases hs : isSym g y
  case false => simp only [Zab,Zac,Zad,Zai,Zaj,Zak,Zam,Zar,Zay,Zaz,Zba,Zbc,Zbh,Zbi,Zbj,Zbk,Zbl,Zbm,Zbn,Zbo,Zbp,Zbq,Zbr,Zby,Zcb,Zcg,Zco,Zcp,Zcr,Zct,Zcu,Zcv,Zcw,Zcx,Zcy,Zcz,List.set_cons_zero,List.set_cons_succ,List.getD_cons_zero,List.getD_cons_succ,Option.bind_some,Option.map_some,Zdj,Zdl,Zdq,Zds,Zdw,Zdy,Zdz,Zea,Zeo,decide_true,decide_false,Bool.not_true,Bool.not_false,List.getElem?_cons_zero,List.getElem?_cons_succ,List.length_cons,List.length_nil,if_true,Nat.reduceAdd,Nat.reduceSub,Nat.reduceLeDiff,Int.reduceNeg,eq_self,and_self,true_and,List.length_cons,List.length_nil,List.replicate_succ,List.replicate_zero,List.cons_append,List.nil_append,aload,acells,getArr,part,eI,astore,putCells,List.all_cons,List.all_nil,cellOk,Bool.and_self,List.drop_zero,List.drop_succ_cons,List.take_succ_cons,List.take_zero,List.take_nil,List.cons_append,List.nil_append,List.set_cons_zero,i0,i1,q1,q2,q3,q3',t1,hs,resAll,resVals,resVal,Option.some.injEq,Prod.mk.injEq,true_and,Bool.false_and,Bool.and_false,exists_eq']
  case true =>
  cases anyb
  case false => 
    simp only [cond_false] at e
    simp only [Zaa,Zab,Zac,Zad,Zae,Zaf,Zag,Zai,Zaj,Zak,Zap,Zas,Zat,Zay,Zaz,Zba,Zbc,Zbh,Zbi,Zbj,Zbk,Zbl,Zbm,Zbn,Zbo,Zbp,Zbq,Zbr,Zby,Zcb,Zcg,Zco,Zcp,Zcr,Zct,Zcu,Zcv,Zcw,Zcx,Zcy,Zcz,Zda,Zdb,Zdc,List.set_cons_zero,List.set_cons_succ,List.getD_cons_zero,List.getD_cons_succ,Option.bind_some,Option.map_some,Zdj,Zdl,Zdq,Zds,Zdw,Zdy,Zdz,Zea,Zeo,decide_true,decide_false,Bool.not_true,Bool.not_false,List.getElem?_cons_zero,List.getElem?_cons_succ,List.length_cons,List.length_nil,if_true,Nat.reduceAdd,Nat.reduceSub,Nat.reduceLeDiff,Int.reduceNeg,eq_self,and_self,true_and,List.length_cons,List.length_nil,List.replicate_succ,List.replicate_zero,List.cons_append,List.nil_append,aload,acells,getArr,part,eI,astore,putCells,List.all_cons,List.all_nil,cellOk,Bool.and_self,List.drop_zero,List.drop_succ_cons,List.take_succ_cons,List.take_zero,List.take_nil,List.cons_append,List.nil_append,List.set_cons_zero,i0,i1,q1,q2,q3,q3',t1,hs,e,resAll,resVals,resVal,Option.some.injEq,Prod.mk.injEq,true_and,exists_eq']
  case true =>
    simp only [cond_true] at e
    simp only [Zaa,Zab,Zac,Zad,Zae,Zaf,Zag,Zaj,Zak,Zam,Zao,Zas,Zat,Zay,Zaz,Zba,Zbc,Zbh,Zbi,Zbj,Zbk,Zbl,Zbm,Zbn,Zbo,Zbp,Zbq,Zbr,Zby,Zcb,Zcg,Zco,Zcp,Zcr,Zct,Zcu,Zcv,Zcw,Zcx,Zcy,Zcz,Zda,Zdb,Zdc,List.set_cons_zero,List.set_cons_succ,List.getD_cons_zero,List.getD_cons_succ,Option.bind_some,Option.map_some,Zdj,Zdl,Zdq,Zds,Zdw,Zdy,Zdz,Zea,Zeo,decide_true,decide_false,Bool.not_true,Bool.not_false,List.getElem?_cons_zero,List.getElem?_cons_succ,List.length_cons,List.length_nil,if_true,Nat.reduceAdd,Nat.reduceSub,Nat.reduceLeDiff,Int.reduceNeg,eq_self,and_self,true_and,List.length_cons,List.length_nil,List.replicate_succ,List.replicate_zero,List.cons_append,List.nil_append,aload,acells,getArr,part,eI,astore,putCells,List.all_cons,List.all_nil,cellOk,Bool.and_self,List.drop_zero,List.drop_succ_cons,List.take_succ_cons,List.take_zero,List.take_nil,List.cons_append,List.nil_append,List.set_cons_zero,i0,i1,q1,q2,q3,q3',t1,hs,e,resAll,resVals,resVal,Option.some.injEq,Prod.mk.injEq,true_and,Bool.and_false,exists_eq']

theorem r_rule_loop (g : GramD) (hg : g.Ok) (x : RuleD) (hx : x.Ok) (n : Nat) (h : AHeap) (hb : h[0]? = some (.arr 0 5 true [eGram g])) (hb1 : h[1]? = some (.arr 0 5 true [eRule x])) : ∀ (d i m : Nat), x.right.length = i + d → d < m →
    loopN (evalCode (lim G0.cfg) n B_r15_rule_0) m ⟨(.junk::.junk :: .ptr 0 0 0 0 :: .junk::.junk :: .ptr 1 0 0 0 :: .int .i64 i :: .junk::.junk::.junk::.junk::.junk::.junk::.junk::.junk::.junk::.junk::.junk::.junk::.junk::.junk::.junk::.junk::.junk::.junk::.junk::.junk::.junk::.junk::.junk::.junk::.junk::.junk::.junk::.junk::.junk::.junk::.junk::.junk::.junk::.junk::.junk::.junk::.junk::.junk::.junk::.junk::.junk::.junk::.junk::.junk::.junk::.junk::.junk::.junk::.junk::.junk::.junk::.junk::.junk::.junk::.junk::.junk::.junk::.junk::.junk::.junk::.junk::.junk::.junk::.junk::.junk::.junk::.junk::.junk::.junk::.junk::.junk::.junk::.junk::.junk::.junk::.junk::.junk::.junk::.junk::.junk::.junk::.junk::.junk::.junk::.junk::.junk::.junk::.junk::.junk::.junk::.junk :: []), h⟩ =
      bif (x.right.drop i).any (badSym g) then some (.ret, ⟨(.junk::.junk::.junk::.junk :: .int .i64 21 :: .junk::.junk::.junk::.junk::.junk::.junk::.junk::.junk::.junk::.junk::.junk::.junk::.junk::.junk::.junk::.junk::.junk::.junk::.junk::.junk::.junk::.junk::.junk::.junk::.junk::.junk::.junk::.junk::.junk::.junk::.junk::.junk::.junk::.junk::.junk::.junk::.junk::.junk::.junk::.junk::.junk::.junk::.junk::.junk::.junk::.junk::.junk::.junk::.junk::.junk::.junk::.junk::.junk::.junk::.junk::.junk::.junk::.junk::.junk::.junk::.junk::.junk::.junk::.junk::.junk::.junk::.junk::.junk::.junk::.junk::.junk::.junk::.junk::.junk::.junk::.junk::.junk::.junk::.junk::.junk::.junk::.junk::.junk::.junk::.junk::.junk::.junk::.junk::.junk::.junk::.junk::.junk::.junk :: []), h⟩) else some (.exit 0, ⟨(.junk::.junk :: .ptr 0 0 0 0 :: .junk::.junk :: .ptr 1 0 0 0 :: .junk::.junk::.junk::.junk::.junk::.junk::.junk::.junk::.junk::.junk::.junk::.junk::.junk::.junk::.junk::.junk::.junk::.junk::.junk::.junk::.junk::.junk::.junk::.junk::.junk::.junk::.junk::.junk::.junk::.junk::.junk::.junk::.junk::.junk::.junk::.junk::.junk::.junk::.junk::.junk::.junk::.junk::.junk::.junk::.junk::.junk::.junk::.junk::.junk::.junk::.junk::.junk::.junk::.junk::.junk::.junk::.junk::.junk::.junk::.junk::.junk::.junk::.junk::.junk::.junk::.junk::.junk::.junk::.junk::.junk::.junk::.junk::.junk::.junk::.junk::.junk::.junk::.junk::.junk::.junk::.junk::.junk::.junk::.junk::.junk::.junk::.junk::.junk::.junk::.junk::.junk::.junk :: []), h⟩) := by
  have hm := hx.right
  rw [maxLen_eq] at hm
  have t1 := f_Is g hg
  intro d
  induction d with
  | zero =>
    intro i m h1 h2
    obtain ⟨m, rfl⟩ : ∃ q, m = q + 1 := ⟨m - 1, by omega⟩
    have e1 : x.right.drop i = [] := List.drop_eq_nil_iff.2 (by omega)
    have h3 : ¬ ((i : Int) < x.right.length) := by omega
    simp only [loop_e,EB_r15_rule_0,Zab,Zac,Zad,Zag,Zah,Zaj,Zak,Zal,Zas,Zav,Zay,Zbi,Zbk,Zbo,Zbq,Zby,Zcg,Zcu,Zcw,Zda,Zdb,Zdc,List.set_cons_zero,List.set_cons_succ,List.getD_cons_zero,List.getD_cons_succ,Option.bind_some,Zdg,Zds,Zdw,Zdy,Zeo,decide_false,List.getElem?_cons_zero,List.length_cons,List.length_nil,if_true,Nat.reduceAdd,Nat.reduceLeDiff,Int.reduceNeg,eq_self,cond_false,aload,acells,getArr,part,List.drop_zero,List.drop_succ_cons,List.take_succ_cons,List.take_zero,List.set_cons_zero,hb1,h3,e1,List.any_nil]
  | succ d ih =>
    intro i m h1 h2
    obtain ⟨m, rfl⟩ : ∃ q, m = q + 1 := ⟨m - 1, by omega⟩
    have h3 : i < x.right.length := by omega
    have h3' : (i : Int) < x.right.length := by omega
    have e1 : x.right.drop i = x.right[i] :: x.right.drop (i + 1) := List.drop_eq_getElem_cons h3
    have hw := w64s (n := i) (by omega)
    rw [e1, List.any_cons]
    cases hs : isSym g x.right[i]
    case false =>
      have hbad : badSym g x.right[i] = true := by simp [badSym, hs]
      simp only [loop_e,EB_r15_rule_0,Zaa,Zab,Zac,Zad,Zae,Zag,Zai,Zaj,Zak,Zam,Zao,Zar,Zaw,Zay,Zaz,Zbd,Zbg,Zbi,Zbj,Zbk,Zbl,Zbo,Zbq,Zbr,Zby,Zcb,Zcg,Zco,Zcp,Zcu,Zcv,Zcw,Zcy,Zcz,Zda,Zdb,Zdc,List.set_cons_zero,List.set_cons_succ,List.getD_cons_zero,List.getD_cons_succ,Option.bind_some,Zdg,Zdq,Zds,Zdw,Zdy,Zdz,Zeo,decide_true,Bool.not_false,List.getElem?_cons_zero,List.length_cons,List.length_nil,if_true,Nat.reduceAdd,Nat.reduceLeDiff,Int.reduceNeg,eq_self,cond_true,aload,acells,getArr,part,eI,List.drop_zero,List.drop_succ_cons,List.take_succ_cons,List.take_zero,List.take_nil,List.cons_append,List.nil_append,List.set_cons_zero,hb,hb1,h3',ix_eIs _ _ x.right _ i h3,t1,hs,hbad,Bool.true_or]
    case true =>
    by_cases q0 : x.right[i] = 0
    case pos =>
      have hbad : badSym g x.right[i] = true := by simp [badSym, q0]
      rw [hbad]
      rw [q0] at hs
      simp only [loop_e,EB_r15_rule_0,Zaa,Zab,Zac,Zad,Zae,Zag,Zai,Zaj,Zak,Zam,Zao,Zar,Zaw,Zay,Zaz,Zbc,Zbd,Zbg,Zbh,Zbi,Zbj,Zbk,Zbl,Zbo,Zbq,Zbr,Zby,Zcb,Zcg,Zco,Zcp,Zcu,Zcv,Zcw,Zcy,Zcz,Zda,Zdb,Zdc,List.set_cons_zero,List.set_cons_succ,List.getD_cons_zero,List.getD_cons_succ,Option.bind_some,Zdg,Zdk,Zdq,Zds,Zdw,Zdy,Zdz,Zeo,decide_true,Bool.not_true,List.getElem?_cons_zero,List.length_cons,List.length_nil,if_true,Nat.reduceAdd,Nat.reduceLeDiff,Int.reduceNeg,eq_self,cond_true,aload,acells,getArr,part,eI,List.drop_zero,List.drop_succ_cons,List.take_succ_cons,List.take_zero,List.take_nil,List.cons_append,List.nil_append,List.set_cons_zero,hb,hb1,h3',ix_eIs _ _ x.right _ i h3,t1,q0,hs,Bool.true_or]
    case neg =>
    by_cases q1 : x.right[i] = 1
    case pos =>
      have hbad : badSym g x.right[i] = true := by simp [badSym, q1]
      rw [hbad]
      rw [q1] at hs
      simp only [loop_e,EB_r15_rule_0,Zaa,Zab,Zac,Zad,Zae,Zag,Zai,Zaj,Zak,Zam,Zao,Zar,Zaw,Zay,Zaz,Zbc,Zbd,Zbg,Zbh,Zbi,Zbj,Zbk,Zbl,Zbo,Zbq,Zbr,Zby,Zcb,Zcg,Zco,Zcp,Zcu,Zcv,Zcw,Zcy,Zcz,Zda,Zdb,Zdc,List.set_cons_zero,List.set_cons_succ,List.getD_cons_zero,List.getD_cons_succ,Option.bind_some,Zdg,Zdk,Zdq,Zds,Zdw,Zdy,Zdz,Zeo,decide_true,decide_false,Bool.not_true,List.getElem?_cons_zero,List.length_cons,List.length_nil,if_true,Nat.reduceAdd,Nat.reduceLeDiff,Int.reduceNeg,Int.reduceEq,eq_self,cond_true,aload,acells,getArr,part,eI,List.drop_zero,List.drop_succ_cons,List.take_succ_cons,List.take_zero,List.take_nil,List.cons_append,List.nil_append,List.set_cons_zero,hb,hb1,h3',ix_eIs _ _ x.right _ i h3,t1,q1,hs,Bool.true_or]
    case neg =>
    by_cases q2 : x.right[i] = -1
    case pos =>
      have hbad : badSym g x.right[i] = true := by simp [badSym, q2]
      rw [hbad]
      rw [q2] at hs
      simp only [loop_e,EB_r15_rule_0,Zaa,Zab,Zac,Zad,Zae,Zag,Zai,Zaj,Zak,Zam,Zao,Zar,Zaw,Zay,Zaz,Zbc,Zbh,Zbi,Zbj,Zbk,Zbl,Zbo,Zbq,Zbr,Zby,Zcb,Zcg,Zco,Zcp,Zcu,Zcv,Zcw,Zcy,Zcz,Zda,Zdb,Zdc,List.set_cons_zero,List.set_cons_succ,List.getD_cons_zero,List.getD_cons_succ,Option.bind_some,Zdg,Zdk,Zdq,Zds,Zdw,Zdy,Zdz,Zeo,decide_true,decide_false,Bool.not_true,List.getElem?_cons_zero,List.length_cons,List.length_nil,if_true,Nat.reduceAdd,Nat.reduceLeDiff,Int.reduceNeg,Int.reduceEq,eq_self,cond_true,aload,acells,getArr,part,eI,List.drop_zero,List.drop_succ_cons,List.take_succ_cons,List.take_zero,List.take_nil,List.cons_append,List.nil_append,List.set_cons_zero,hb,hb1,h3',ix_eIs _ _ x.right _ i h3,t1,q2,hs,Bool.true_or]
    case neg =>
      have hbad : badSym g x.right[i] = false := by simp [badSym, hs]; omega
      simp only [loop_e,EB_r15_rule_0,Zaa,Zab,Zac,Zad,Zae,Zag,Zaj,Zak,Zan,Zar,Zas,Zau,Zay,Zaz,Zbc,Zbh,Zbi,Zbj,Zbk,Zbl,Zbo,Zbq,Zbr,Zby,Zcb,Zcg,Zco,Zcp,Zcu,Zcv,Zcw,Zcy,Zcz,Zda,Zdb,Zdc,List.set_cons_zero,List.set_cons_succ,List.getD_cons_zero,List.getD_cons_succ,Option.bind_some,Zdd,Zdg,Zdk,Zdq,Zds,Zdw,Zdy,Zdz,Zeo,decide_true,decide_false,Bool.not_true,List.getElem?_cons_zero,List.length_cons,List.length_nil,if_true,Nat.reduceAdd,Nat.reduceLeDiff,Int.reduceNeg,eq_self,aload,acells,getArr,part,eI,List.drop_zero,List.drop_succ_cons,List.take_succ_cons,List.take_zero,List.take_nil,List.cons_append,List.nil_append,List.set_cons_zero,hb,hb1,h3',ix_eIs _ _ x.right _ i h3,t1,hs,q0,q1,q2,hbad,hw,ih (i + 1) m (by omega) (by omega),Bool.false_or]

/-- The left side ahead of a rule. -/
def aheadOf (g : GramD) : Nat → Int
  | 0 => 0
  | i + 1 => match g.rules[i]? with | some r => r.left | none => 0

theorem r_rule (g : GramD) (hg : g.Ok) (i : Nat) (hi : i < g.rules.length) (H : AHeap) : lim G0.cfg (.func 65) [.agg (eGram g), .int .i64 i] H = some (.int .i64 (ruleErr g g.rules[i] (aheadOf g i)), H) := by
  refine lim_flat rfl rfl P_r15_rule ((g.rules[i]).right.length + 1) (fun h => fz_2 (fz_gram g h) rfl) ?_ (fun _ => rfl) H
  have hm := hg.rules
  rw [maxLen_eq] at hm
  obtain ⟨x, hx⟩ : ∃ x, x = g.rules[i] := ⟨_, rfl⟩
  have hxo : x.Ok := by rw [hx]; exact hg.rule _ (List.getElem_mem hi)
  have ii := ix_map eRule (sz := 5) (e := false) (l := g.rules) (k := .i64) (j := i) (hj := hi) (hs := rfl)
  rw [← hx] at ii ⊢
  have e := r_rule_loop g hg x hxo (x.right.length + 1) [.arr 0 5 true [eGram g], .arr 0 5 true [eRule x]] rfl rfl x.right.length 0 (x.right.length + 1) (by omega) (by omega)
  rw [List.drop_zero, z0] at e
  rw [R_r15_rule]
  by_cases q1 : x.left < 0
  case pos =>
    have hE : ruleErr g x (aheadOf g i) = 22 := if_pos (by omega)
    simp only [Zab,Zac,Zad,Zai,Zaj,Zak,Zam,Zar,Zay,Zaz,Zba,Zbd,Zbf,Zbg,Zbi,Zbj,Zbk,Zbl,Zbm,Zbn,Zbo,Zbp,Zbq,Zby,Zcb,Zcr,Zct,Zcu,Zcv,Zcw,Zcx,List.set_cons_zero,List.set_cons_succ,List.getD_cons_zero,List.getD_cons_succ,Option.bind_some,Option.map_some,Zdg,Zdw,Zdy,Zdz,Zea,decide_true,List.getElem?_cons_zero,List.getElem?_cons_succ,List.length_cons,List.length_nil,if_true,Nat.reduceAdd,Nat.reduceSub,Nat.reduceLeDiff,eq_self,and_self,true_and,List.length_cons,List.length_nil,List.replicate_succ,List.replicate_zero,List.cons_append,List.nil_append,aload,acells,getArr,part,astore,putCells,List.all_cons,List.all_nil,cellOk,Bool.and_self,List.drop_zero,List.drop_succ_cons,List.take_succ_cons,List.take_zero,List.take_nil,List.cons_append,List.nil_append,List.set_cons_zero,ii,hE,q1,resAll,resVals,resVal,Option.some.injEq,Prod.mk.injEq,true_and,exists_eq']
  case neg =>
  by_cases q2 : (g.nonterms.length : Int) ≤ x.left
  case pos =>
    have hE : ruleErr g x (aheadOf g i) = 22 := if_pos (by omega)
    simp only [Zab,Zac,Zad,Zai,Zaj,Zak,Zam,Zar,Zay,Zaz,Zba,Zbc,Zbd,Zbf,Zbg,Zbh,Zbi,Zbj,Zbk,Zbl,Zbm,Zbn,Zbo,Zbp,Zbq,Zby,Zcb,Zcg,Zcr,Zct,Zcu,Zcv,Zcw,Zcx,List.set_cons_zero,List.set_cons_succ,List.getD_cons_zero,List.getD_cons_succ,Option.bind_some,Option.map_some,Zdg,Zdj,Zds,Zdw,Zdy,Zdz,Zea,Zep,decide_true,decide_false,List.getElem?_cons_zero,List.getElem?_cons_succ,List.length_cons,List.length_nil,if_true,Nat.reduceAdd,Nat.reduceSub,Nat.reduceLeDiff,eq_self,and_self,true_and,List.length_cons,List.length_nil,List.replicate_succ,List.replicate_zero,List.cons_append,List.nil_append,aload,acells,getArr,part,astore,putCells,List.all_cons,List.all_nil,cellOk,Bool.and_self,List.drop_zero,List.drop_succ_cons,List.take_succ_cons,List.take_zero,List.take_nil,List.cons_append,List.nil_append,List.set_cons_zero,ii,hE,q1,q2,resAll,resVals,resVal,Option.some.injEq,Prod.mk.injEq,true_and,exists_eq']
  case neg =>
  -- the left side ahead
  have ha : (∃ i', i = i' + 1 ∧ ∃ h' : i' < g.rules.length, aheadOf g i = (g.rules[i']).left) ∨ (i = 0 ∧ aheadOf g i = 0) := by
    cases i with
    | zero => exact .inr ⟨rfl, rfl⟩
    | succ i' => exact .inl ⟨i', rfl, by omega, by simp [aheadOf, show i' < g.rules.length by omega]⟩
  have fin4 : ¬ (x.left < aheadOf g i) → (∀ R : List (AOper), True) → ∀ (P : Prop), ((¬ (32 : Int) < x.right.length → P) → ((32 : Int) < x.right.length → P) → P) := fun _ _ P a b => by
    by_cases q : (32 : Int) < x.right.length
    · exact b q
    · exact a q
  have hE5 : ¬ (x.left < aheadOf g i) → ¬ ((32 : Int) < x.right.length) → ruleErr g x (aheadOf g i) = if x.right.any (badSym g) = true then 21
    else if (x.fields.length : Int) ≠ 0 ∧ (x.fields.length : Int) ≠ x.right.length then 25
    else if x.level < 0 ∨ (g.levels.length : Int) < x.level then 24
    else 0 := fun h1 h2 => if_neg (by omega)
  generalize hah : aheadOf g i = ah at *
  rcases ha with ⟨i', hi', h', hai⟩ | ⟨hi0, hai⟩
  case inl =>
    have p1 : (0 : Int) < i := by omega
    have hwi : IntKind.i64.wrap ((i : Int) - 1) = (i' : Int) := by rw [w64 (by omega) (by omega)]; omega
    have ii' := ix_map eRule (sz := 5) (e := false) (l := g.rules) (k := .i64) (j := i') (hj := h') (hs := rfl)
    have hal : (g.rules[i']).left = ah := hai.symm
    by_cases q3 : x.left < ah
    case pos =>
      have hE : ruleErr g x ah = 22 := if_pos (by omega)
      simp only [Zab,Zac,Zad,Zai,Zaj,Zak,Zam,Zar,Zay,Zaz,Zba,Zbb,Zbc,Zbd,Zbg,Zbh,Zbi,Zbj,Zbk,Zbl,Zbm,Zbn,Zbo,Zbp,Zbq,Zby,Zcb,Zcg,Zcr,Zct,Zcu,Zcv,Zcw,Zcx,List.set_cons_zero,List.set_cons_succ,List.getD_cons_zero,List.getD_cons_succ,Option.bind_some,Option.map_some,Zde,Zdg,Zdi,Zdj,Zds,Zdw,Zdx,Zdy,Zdz,Zea,Zep,decide_true,decide_false,List.getElem?_cons_zero,List.getElem?_cons_succ,List.length_cons,List.length_nil,if_true,Nat.reduceAdd,Nat.reduceSub,Nat.reduceLeDiff,eq_self,and_self,true_and,List.length_cons,List.length_nil,List.replicate_succ,List.replicate_zero,List.cons_append,List.nil_append,aload,acells,getArr,part,astore,putCells,List.all_cons,List.all_nil,cellOk,Bool.and_self,List.drop_zero,List.drop_succ_cons,List.take_succ_cons,List.take_zero,List.take_nil,List.cons_append,List.nil_append,List.set_cons_zero,ii,ii',hwi,p1,hal,hE,q1,q2,q3,resAll,resVals,resVal,Option.some.injEq,Prod.mk.injEq,true_and,exists_eq']
    case neg =>
    by_cases q4 : (32 : Int) < x.right.length
    case pos =>
      have hE : ruleErr g x ah = 22 := if_pos (by omega)
      simp only [Zab,Zac,Zad,Zai,Zaj,Zak,Zam,Zar,Zay,Zaz,Zba,Zbb,Zbc,Zbg,Zbh,Zbi,Zbj,Zbk,Zbl,Zbm,Zbn,Zbo,Zbp,Zbq,Zby,Zcb,Zcg,Zcr,Zct,Zcu,Zcv,Zcw,Zcx,List.set_cons_zero,List.set_cons_succ,List.getD_cons_zero,List.getD_cons_succ,Option.bind_some,Option.map_some,Zde,Zdg,Zdi,Zdj,Zds,Zdw,Zdx,Zdy,Zdz,Zea,Zeo,Zep,decide_true,decide_false,List.getElem?_cons_zero,List.getElem?_cons_succ,List.length_cons,List.length_nil,if_true,Nat.reduceAdd,Nat.reduceSub,Nat.reduceLeDiff,eq_self,and_self,true_and,List.length_cons,List.length_nil,List.replicate_succ,List.replicate_zero,List.cons_append,List.nil_append,aload,acells,getArr,part,astore,putCells,List.all_cons,List.all_nil,cellOk,Bool.and_self,List.drop_zero,List.drop_succ_cons,List.take_succ_cons,List.take_zero,List.take_nil,List.cons_append,List.nil_append,List.set_cons_zero,ii,ii',hwi,p1,hal,hE,q1,q2,q3,q4,resAll,resVals,resVal,Option.some.injEq,Prod.mk.injEq,true_and,exists_eq']
    case neg =>
    rw [hE5 q3 q4]
    cases q5 : x.right.any (badSym g)
    case true =>
      rw [q5] at e
      simp only [cond_true] at e
      simp only [Zaa,Zab,Zac,Zad,Zae,Zaf,Zag,Zaj,Zak,Zam,Zao,Zas,Zat,Zay,Zaz,Zba,Zbb,Zbc,Zbg,Zbh,Zbi,Zbj,Zbk,Zbl,Zbm,Zbn,Zbo,Zbp,Zbq,Zby,Zcb,Zcg,Zcr,Zct,Zcu,Zcv,Zcw,Zcx,Zda,Zdb,Zdc,List.set_cons_zero,List.set_cons_succ,List.getD_cons_zero,List.getD_cons_succ,Option.bind_some,Option.map_some,Zde,Zdg,Zdi,Zdj,Zds,Zdw,Zdx,Zdy,Zdz,Zea,Zeo,Zep,decide_true,decide_false,List.getElem?_cons_zero,List.getElem?_cons_succ,List.length_cons,List.length_nil,if_true,Nat.reduceAdd,Nat.reduceSub,Nat.reduceLeDiff,eq_self,and_self,true_and,List.length_cons,List.length_nil,List.replicate_succ,List.replicate_zero,List.cons_append,List.nil_append,aload,acells,getArr,part,astore,putCells,List.all_cons,List.all_nil,cellOk,Bool.and_self,List.drop_zero,List.drop_succ_cons,List.take_succ_cons,List.take_zero,List.take_nil,List.cons_append,List.nil_append,List.set_cons_zero,ii,ii',hwi,p1,hal,q1,q2,q3,q4,e,resAll,resVals,resVal,Option.some.injEq,Prod.mk.injEq,true_and,exists_eq']
    case false =>
    rw [q5] at e
    simp only [cond_false] at e
    simp only [Bool.false_eq_true,if_false]
    by_cases q6 : (x.fields.length : Int) = 0
    case pos =>
      rw [if_neg (by omega)]
      by_cases q8 : x.level < 0
      case pos =>
        rw [if_pos (.inl q8)]
        simp only [Zaa,Zab,Zac,Zad,Zae,Zaf,Zag,Zai,Zaj,Zak,Zam,Zap,Zar,Zas,Zat,Zay,Zaz,Zba,Zbb,Zbc,Zbd,Zbe,Zbg,Zbh,Zbi,Zbj,Zbk,Zbl,Zbm,Zbn,Zbo,Zbp,Zbq,Zby,Zcb,Zcg,Zcr,Zct,Zcu,Zcv,Zcw,Zcx,Zda,Zdb,Zdc,List.set_cons_zero,List.set_cons_succ,List.getD_cons_zero,List.getD_cons_succ,Option.bind_some,Option.map_some,Zde,Zdg,Zdi,Zdj,Zdl,Zds,Zdw,Zdx,Zdy,Zdz,Zea,Zeo,Zep,decide_true,decide_false,Bool.not_true,List.getElem?_cons_zero,List.getElem?_cons_succ,List.length_cons,List.length_nil,if_true,Nat.reduceAdd,Nat.reduceSub,Nat.reduceLeDiff,eq_self,and_self,true_and,List.length_cons,List.length_nil,List.replicate_succ,List.replicate_zero,List.cons_append,List.nil_append,aload,acells,getArr,part,astore,putCells,List.all_cons,List.all_nil,cellOk,Bool.and_self,List.drop_zero,List.drop_succ_cons,List.take_succ_cons,List.take_zero,List.take_nil,List.cons_append,List.nil_append,List.set_cons_zero,ii,ii',hwi,p1,hal,q1,q2,q3,q4,e,q6,q8,resAll,resVals,resVal,Option.some.injEq,Prod.mk.injEq,true_and,exists_eq']
      case neg =>
      by_cases q9 : (g.levels.length : Int) < x.level
      case pos =>
        rw [if_pos (.inr q9)]
        simp only [Zaa,Zab,Zac,Zad,Zae,Zaf,Zag,Zai,Zaj,Zak,Zam,Zap,Zar,Zas,Zat,Zay,Zaz,Zba,Zbb,Zbc,Zbe,Zbg,Zbh,Zbi,Zbj,Zbk,Zbl,Zbm,Zbn,Zbo,Zbp,Zbq,Zby,Zcb,Zcg,Zcr,Zct,Zcu,Zcv,Zcw,Zcx,Zda,Zdb,Zdc,List.set_cons_zero,List.set_cons_succ,List.getD_cons_zero,List.getD_cons_succ,Option.bind_some,Option.map_some,Zde,Zdg,Zdi,Zdj,Zdl,Zds,Zdw,Zdx,Zdy,Zdz,Zea,Zeo,Zep,decide_true,decide_false,Bool.not_true,List.getElem?_cons_zero,List.getElem?_cons_succ,List.length_cons,List.length_nil,if_true,Nat.reduceAdd,Nat.reduceSub,Nat.reduceLeDiff,eq_self,and_self,true_and,List.length_map,List.length_cons,List.length_nil,List.replicate_succ,List.replicate_zero,List.cons_append,List.nil_append,aload,acells,getArr,part,astore,putCells,List.all_cons,List.all_nil,cellOk,Bool.and_self,List.drop_zero,List.drop_succ_cons,List.take_succ_cons,List.take_zero,List.take_nil,List.cons_append,List.nil_append,List.set_cons_zero,List.length_map,ii,ii',hwi,p1,hal,q1,q2,q3,q4,e,q6,q8,q9,resAll,resVals,resVal,Option.some.injEq,Prod.mk.injEq,true_and,exists_eq']
      case neg =>
        rw [if_neg (by omega)]
        simp only [Zaa,Zab,Zac,Zad,Zae,Zaf,Zag,Zai,Zaj,Zak,Zap,Zas,Zat,Zay,Zaz,Zba,Zbb,Zbc,Zbe,Zbg,Zbh,Zbi,Zbj,Zbk,Zbl,Zbm,Zbn,Zbo,Zbp,Zbq,Zby,Zcb,Zcg,Zcr,Zct,Zcu,Zcv,Zcw,Zcx,Zda,Zdb,Zdc,List.set_cons_zero,List.set_cons_succ,List.getD_cons_zero,List.getD_cons_succ,Option.bind_some,Option.map_some,Zde,Zdg,Zdi,Zdj,Zdl,Zds,Zdw,Zdx,Zdy,Zdz,Zea,Zeo,Zep,decide_true,decide_false,Bool.not_true,List.getElem?_cons_zero,List.getElem?_cons_succ,List.length_cons,List.length_nil,if_true,Nat.reduceAdd,Nat.reduceSub,Nat.reduceLeDiff,eq_self,and_self,true_and,List.length_map,List.length_cons,List.length_nil,List.replicate_succ,List.replicate_zero,List.cons_append,List.nil_append,aload,acells,getArr,part,astore,putCells,List.all_cons,List.all_nil,cellOk,Bool.and_self,List.drop_zero,List.drop_succ_cons,List.take_succ_cons,List.take_zero,List.take_nil,List.cons_append,List.nil_append,List.set_cons_zero,List.length_map,ii,ii',hwi,p1,hal,q1,q2,q3,q4,e,q6,q8,q9,resAll,resVals,resVal,Option.some.injEq,Prod.mk.injEq,true_and,exists_eq']
    case neg =>
    by_cases q7 : (x.fields.length : Int) = x.right.length
    case neg =>
      rw [if_pos ⟨q6, q7⟩]
      simp only [Zaa,Zab,Zac,Zad,Zae,Zaf,Zag,Zai,Zaj,Zak,Zam,Zap,Zar,Zas,Zat,Zay,Zaz,Zba,Zbb,Zbc,Zbg,Zbh,Zbi,Zbj,Zbk,Zbl,Zbm,Zbn,Zbo,Zbp,Zbq,Zby,Zcb,Zcg,Zcr,Zct,Zcu,Zcv,Zcw,Zcx,Zda,Zdb,Zdc,List.set_cons_zero,List.set_cons_succ,List.getD_cons_zero,List.getD_cons_succ,Option.bind_some,Option.map_some,Zde,Zdg,Zdi,Zdj,Zdl,Zds,Zdw,Zdx,Zdy,Zdz,Zea,Zeo,Zep,decide_true,decide_false,Bool.not_false,List.getElem?_cons_zero,List.getElem?_cons_succ,List.length_cons,List.length_nil,if_true,Nat.reduceAdd,Nat.reduceSub,Nat.reduceLeDiff,eq_self,and_self,true_and,List.length_cons,List.length_nil,List.replicate_succ,List.replicate_zero,List.cons_append,List.nil_append,aload,acells,getArr,part,astore,putCells,List.all_cons,List.all_nil,cellOk,Bool.and_self,List.drop_zero,List.drop_succ_cons,List.take_succ_cons,List.take_zero,List.take_nil,List.cons_append,List.nil_append,List.set_cons_zero,ii,ii',hwi,p1,hal,q1,q2,q3,q4,e,q6,q7,resAll,resVals,resVal,Option.some.injEq,Prod.mk.injEq,true_and,exists_eq']
    case pos =>
      have q6' : ¬ (x.right.length : Int) = 0 := by omega
      rw [if_neg (by omega)]
      by_cases q8 : x.level < 0
      case pos =>
        rw [if_pos (.inl q8)]
        simp only [Zaa,Zab,Zac,Zad,Zae,Zaf,Zag,Zai,Zaj,Zak,Zam,Zap,Zar,Zas,Zat,Zay,Zaz,Zba,Zbb,Zbc,Zbd,Zbg,Zbh,Zbi,Zbj,Zbk,Zbl,Zbm,Zbn,Zbo,Zbp,Zbq,Zby,Zcb,Zcg,Zcr,Zct,Zcu,Zcv,Zcw,Zcx,Zda,Zdb,Zdc,List.set_cons_zero,List.set_cons_succ,List.getD_cons_zero,List.getD_cons_succ,Option.bind_some,Option.map_some,Zde,Zdg,Zdi,Zdj,Zdl,Zds,Zdw,Zdx,Zdy,Zdz,Zea,Zeo,Zep,decide_true,decide_false,Bool.not_true,Bool.not_false,List.getElem?_cons_zero,List.getElem?_cons_succ,List.length_cons,List.length_nil,if_true,Nat.reduceAdd,Nat.reduceSub,Nat.reduceLeDiff,eq_self,and_self,true_and,List.length_cons,List.length_nil,List.replicate_succ,List.replicate_zero,List.cons_append,List.nil_append,aload,acells,getArr,part,astore,putCells,List.all_cons,List.all_nil,cellOk,Bool.and_self,List.drop_zero,List.drop_succ_cons,List.take_succ_cons,List.take_zero,List.take_nil,List.cons_append,List.nil_append,List.set_cons_zero,ii,ii',hwi,p1,hal,q1,q2,q3,q4,e,q6',q7,q8,resAll,resVals,resVal,Option.some.injEq,Prod.mk.injEq,true_and,exists_eq']
      case neg =>
      by_cases q9 : (g.levels.length : Int) < x.level
      case pos =>
        rw [if_pos (.inr q9)]
        simp only [Zaa,Zab,Zac,Zad,Zae,Zaf,Zag,Zai,Zaj,Zak,Zam,Zap,Zar,Zas,Zat,Zay,Zaz,Zba,Zbb,Zbc,Zbg,Zbh,Zbi,Zbj,Zbk,Zbl,Zbm,Zbn,Zbo,Zbp,Zbq,Zby,Zcb,Zcg,Zcr,Zct,Zcu,Zcv,Zcw,Zcx,Zda,Zdb,Zdc,List.set_cons_zero,List.set_cons_succ,List.getD_cons_zero,List.getD_cons_succ,Option.bind_some,Option.map_some,Zde,Zdg,Zdi,Zdj,Zdl,Zds,Zdw,Zdx,Zdy,Zdz,Zea,Zeo,Zep,decide_true,decide_false,Bool.not_true,Bool.not_false,List.getElem?_cons_zero,List.getElem?_cons_succ,List.length_cons,List.length_nil,if_true,Nat.reduceAdd,Nat.reduceSub,Nat.reduceLeDiff,eq_self,and_self,true_and,List.length_map,List.length_cons,List.length_nil,List.replicate_succ,List.replicate_zero,List.cons_append,List.nil_append,aload,acells,getArr,part,astore,putCells,List.all_cons,List.all_nil,cellOk,Bool.and_self,List.drop_zero,List.drop_succ_cons,List.take_succ_cons,List.take_zero,List.take_nil,List.cons_append,List.nil_append,List.set_cons_zero,List.length_map,ii,ii',hwi,p1,hal,q1,q2,q3,q4,e,q6',q7,q8,q9,resAll,resVals,resVal,Option.some.injEq,Prod.mk.injEq,true_and,exists_eq']
      case neg =>
        rw [if_neg (by omega)]
        simp only [Zaa,Zab,Zac,Zad,Zae,Zaf,Zag,Zai,Zaj,Zak,Zap,Zas,Zat,Zay,Zaz,Zba,Zbb,Zbc,Zbg,Zbh,Zbi,Zbj,Zbk,Zbl,Zbm,Zbn,Zbo,Zbp,Zbq,Zby,Zcb,Zcg,Zcr,Zct,Zcu,Zcv,Zcw,Zcx,Zda,Zdb,Zdc,List.set_cons_zero,List.set_cons_succ,List.getD_cons_zero,List.getD_cons_succ,Option.bind_some,Option.map_some,Zde,Zdg,Zdi,Zdj,Zdl,Zds,Zdw,Zdx,Zdy,Zdz,Zea,Zeo,Zep,decide_true,decide_false,Bool.not_true,Bool.not_false,List.getElem?_cons_zero,List.getElem?_cons_succ,List.length_cons,List.length_nil,if_true,Nat.reduceAdd,Nat.reduceSub,Nat.reduceLeDiff,eq_self,and_self,true_and,List.length_map,List.length_cons,List.length_nil,List.replicate_succ,List.replicate_zero,List.cons_append,List.nil_append,aload,acells,getArr,part,astore,putCells,List.all_cons,List.all_nil,cellOk,Bool.and_self,List.drop_zero,List.drop_succ_cons,List.take_succ_cons,List.take_zero,List.take_nil,List.cons_append,List.nil_append,List.set_cons_zero,List.length_map,ii,ii',hwi,p1,hal,q1,q2,q3,q4,e,q6',q7,q8,q9,resAll,resVals,resVal,Option.some.injEq,Prod.mk.injEq,true_and,exists_eq']
  case inr =>
    have p1 : ¬ ((0 : Int) < i) := by omega
    have q3 : ¬ (x.left < ah) := by omega
    by_cases q4 : (32 : Int) < x.right.length
    case pos =>
      have hE : ruleErr g x ah = 22 := if_pos (by omega)
      simp only [Zab,Zac,Zad,Zai,Zaj,Zak,Zam,Zar,Zay,Zaz,Zba,Zbc,Zbe,Zbh,Zbi,Zbj,Zbk,Zbl,Zbm,Zbn,Zbo,Zbp,Zbq,Zby,Zcb,Zcg,Zcr,Zct,Zcu,Zcv,Zcw,Zcx,List.set_cons_zero,List.set_cons_succ,List.getD_cons_zero,List.getD_cons_succ,Option.bind_some,Option.map_some,Zdg,Zdi,Zdj,Zds,Zdw,Zdy,Zdz,Zea,Zeo,Zep,decide_true,decide_false,List.getElem?_cons_zero,List.getElem?_cons_succ,List.length_cons,List.length_nil,if_true,Nat.reduceAdd,Nat.reduceSub,Nat.reduceLeDiff,eq_self,and_self,true_and,List.length_cons,List.length_nil,List.replicate_succ,List.replicate_zero,List.cons_append,List.nil_append,aload,acells,getArr,part,astore,putCells,List.all_cons,List.all_nil,cellOk,Bool.and_self,List.drop_zero,List.drop_succ_cons,List.take_succ_cons,List.take_zero,List.take_nil,List.cons_append,List.nil_append,List.set_cons_zero,ii,p1,hE,q1,q2,q4,resAll,resVals,resVal,Option.some.injEq,Prod.mk.injEq,true_and,exists_eq']
    case neg =>
    rw [hE5 q3 q4]
    cases q5 : x.right.any (badSym g)
    case true =>
      rw [q5] at e
      simp only [cond_true] at e
      simp only [Zaa,Zab,Zac,Zad,Zae,Zaf,Zag,Zaj,Zak,Zam,Zao,Zas,Zat,Zay,Zaz,Zba,Zbc,Zbe,Zbh,Zbi,Zbj,Zbk,Zbl,Zbm,Zbn,Zbo,Zbp,Zbq,Zby,Zcb,Zcg,Zcr,Zct,Zcu,Zcv,Zcw,Zcx,Zda,Zdb,Zdc,List.set_cons_zero,List.set_cons_succ,List.getD_cons_zero,List.getD_cons_succ,Option.bind_some,Option.map_some,Zdg,Zdi,Zdj,Zds,Zdw,Zdy,Zdz,Zea,Zeo,Zep,decide_false,List.getElem?_cons_zero,List.getElem?_cons_succ,List.length_cons,List.length_nil,if_true,Nat.reduceAdd,Nat.reduceSub,Nat.reduceLeDiff,eq_self,and_self,true_and,List.length_cons,List.length_nil,List.replicate_succ,List.replicate_zero,List.cons_append,List.nil_append,aload,acells,getArr,part,astore,putCells,List.all_cons,List.all_nil,cellOk,Bool.and_self,List.drop_zero,List.drop_succ_cons,List.take_succ_cons,List.take_zero,List.take_nil,List.cons_append,List.nil_append,List.set_cons_zero,ii,p1,q1,q2,q4,e,resAll,resVals,resVal,Option.some.injEq,Prod.mk.injEq,true_and,exists_eq']
    case false =>
    rw [q5] at e
    simp only [cond_false] at e
    simp only [Bool.false_eq_true,if_false]
    by_cases q6 : (x.fields.length : Int) = 0
    case pos =>
      rw [if_neg (by omega)]
      by_cases q8 : x.level < 0
      case pos =>
        rw [if_pos (.inl q8)]
        simp only [Zaa,Zab,Zac,Zad,Zae,Zaf,Zag,Zai,Zaj,Zak,Zam,Zap,Zar,Zas,Zat,Zay,Zaz,Zba,Zbc,Zbd,Zbe,Zbg,Zbh,Zbi,Zbj,Zbk,Zbl,Zbm,Zbn,Zbo,Zbp,Zbq,Zby,Zcb,Zcg,Zcr,Zct,Zcu,Zcv,Zcw,Zcx,Zda,Zdb,Zdc,List.set_cons_zero,List.set_cons_succ,List.getD_cons_zero,List.getD_cons_succ,Option.bind_some,Option.map_some,Zdg,Zdi,Zdj,Zdl,Zds,Zdw,Zdy,Zdz,Zea,Zeo,Zep,decide_true,decide_false,Bool.not_true,List.getElem?_cons_zero,List.getElem?_cons_succ,List.length_cons,List.length_nil,if_true,Nat.reduceAdd,Nat.reduceSub,Nat.reduceLeDiff,eq_self,and_self,true_and,List.length_cons,List.length_nil,List.replicate_succ,List.replicate_zero,List.cons_append,List.nil_append,aload,acells,getArr,part,astore,putCells,List.all_cons,List.all_nil,cellOk,Bool.and_self,List.drop_zero,List.drop_succ_cons,List.take_succ_cons,List.take_zero,List.take_nil,List.cons_append,List.nil_append,List.set_cons_zero,ii,p1,q1,q2,q4,e,q6,q8,resAll,resVals,resVal,Option.some.injEq,Prod.mk.injEq,true_and,exists_eq']
      case neg =>
      by_cases q9 : (g.levels.length : Int) < x.level
      case pos =>
        rw [if_pos (.inr q9)]
        simp only [Zaa,Zab,Zac,Zad,Zae,Zaf,Zag,Zai,Zaj,Zak,Zam,Zap,Zar,Zas,Zat,Zay,Zaz,Zba,Zbc,Zbe,Zbh,Zbi,Zbj,Zbk,Zbl,Zbm,Zbn,Zbo,Zbp,Zbq,Zby,Zcb,Zcg,Zcr,Zct,Zcu,Zcv,Zcw,Zcx,Zda,Zdb,Zdc,List.set_cons_zero,List.set_cons_succ,List.getD_cons_zero,List.getD_cons_succ,Option.bind_some,Option.map_some,Zdg,Zdi,Zdj,Zdl,Zds,Zdw,Zdy,Zdz,Zea,Zeo,Zep,decide_true,decide_false,Bool.not_true,List.getElem?_cons_zero,List.getElem?_cons_succ,List.length_cons,List.length_nil,if_true,Nat.reduceAdd,Nat.reduceSub,Nat.reduceLeDiff,eq_self,and_self,true_and,List.length_map,List.length_cons,List.length_nil,List.replicate_succ,List.replicate_zero,List.cons_append,List.nil_append,aload,acells,getArr,part,astore,putCells,List.all_cons,List.all_nil,cellOk,Bool.and_self,List.drop_zero,List.drop_succ_cons,List.take_succ_cons,List.take_zero,List.take_nil,List.cons_append,List.nil_append,List.set_cons_zero,List.length_map,ii,p1,q1,q2,q4,e,q6,q8,q9,resAll,resVals,resVal,Option.some.injEq,Prod.mk.injEq,true_and,exists_eq']
      case neg =>
        rw [if_neg (by omega)]
        simp only [Zaa,Zab,Zac,Zad,Zae,Zaf,Zag,Zai,Zaj,Zak,Zap,Zas,Zat,Zay,Zaz,Zba,Zbc,Zbe,Zbh,Zbi,Zbj,Zbk,Zbl,Zbm,Zbn,Zbo,Zbp,Zbq,Zby,Zcb,Zcg,Zcr,Zct,Zcu,Zcv,Zcw,Zcx,Zda,Zdb,Zdc,List.set_cons_zero,List.set_cons_succ,List.getD_cons_zero,List.getD_cons_succ,Option.bind_some,Option.map_some,Zdg,Zdi,Zdj,Zdl,Zds,Zdw,Zdy,Zdz,Zea,Zeo,Zep,decide_true,decide_false,Bool.not_true,List.getElem?_cons_zero,List.getElem?_cons_succ,List.length_cons,List.length_nil,if_true,Nat.reduceAdd,Nat.reduceSub,Nat.reduceLeDiff,eq_self,and_self,true_and,List.length_map,List.length_cons,List.length_nil,List.replicate_succ,List.replicate_zero,List.cons_append,List.nil_append,aload,acells,getArr,part,astore,putCells,List.all_cons,List.all_nil,cellOk,Bool.and_self,List.drop_zero,List.drop_succ_cons,List.take_succ_cons,List.take_zero,List.take_nil,List.cons_append,List.nil_append,List.set_cons_zero,List.length_map,ii,p1,q1,q2,q4,e,q6,q8,q9,resAll,resVals,resVal,Option.some.injEq,Prod.mk.injEq,true_and,exists_eq']
    case neg =>
    by_cases q7 : (x.fields.length : Int) = x.right.length
    case neg =>
      rw [if_pos ⟨q6, q7⟩]
      simp only [Zaa,Zab,Zac,Zad,Zae,Zaf,Zag,Zai,Zaj,Zak,Zam,Zap,Zar,Zas,Zat,Zay,Zaz,Zba,Zbb,Zbc,Zbe,Zbg,Zbh,Zbi,Zbj,Zbk,Zbl,Zbm,Zbn,Zbo,Zbp,Zbq,Zby,Zcb,Zcg,Zcr,Zct,Zcu,Zcv,Zcw,Zcx,Zda,Zdb,Zdc,List.set_cons_zero,List.set_cons_succ,List.getD_cons_zero,List.getD_cons_succ,Option.bind_some,Option.map_some,Zdg,Zdi,Zdj,Zdl,Zds,Zdw,Zdy,Zdz,Zea,Zeo,Zep,decide_false,Bool.not_false,List.getElem?_cons_zero,List.getElem?_cons_succ,List.length_cons,List.length_nil,if_true,Nat.reduceAdd,Nat.reduceSub,Nat.reduceLeDiff,eq_self,and_self,true_and,List.length_cons,List.length_nil,List.replicate_succ,List.replicate_zero,List.cons_append,List.nil_append,aload,acells,getArr,part,astore,putCells,List.all_cons,List.all_nil,cellOk,Bool.and_self,List.drop_zero,List.drop_succ_cons,List.take_succ_cons,List.take_zero,List.take_nil,List.cons_append,List.nil_append,List.set_cons_zero,ii,p1,q1,q2,q4,e,q6,q7,resAll,resVals,resVal,Option.some.injEq,Prod.mk.injEq,true_and,exists_eq']
    case pos =>
      have q6' : ¬ (x.right.length : Int) = 0 := by omega
      rw [if_neg (by omega)]
      by_cases q8 : x.level < 0
      case pos =>
        rw [if_pos (.inl q8)]
        simp only [Zaa,Zab,Zac,Zad,Zae,Zaf,Zag,Zai,Zaj,Zak,Zam,Zap,Zar,Zas,Zat,Zay,Zaz,Zba,Zbb,Zbc,Zbd,Zbe,Zbg,Zbh,Zbi,Zbj,Zbk,Zbl,Zbm,Zbn,Zbo,Zbp,Zbq,Zby,Zcb,Zcg,Zcr,Zct,Zcu,Zcv,Zcw,Zcx,Zda,Zdb,Zdc,List.set_cons_zero,List.set_cons_succ,List.getD_cons_zero,List.getD_cons_succ,Option.bind_some,Option.map_some,Zdg,Zdi,Zdj,Zdl,Zds,Zdw,Zdy,Zdz,Zea,Zeo,Zep,decide_true,decide_false,Bool.not_true,Bool.not_false,List.getElem?_cons_zero,List.getElem?_cons_succ,List.length_cons,List.length_nil,if_true,Nat.reduceAdd,Nat.reduceSub,Nat.reduceLeDiff,eq_self,and_self,true_and,List.length_cons,List.length_nil,List.replicate_succ,List.replicate_zero,List.cons_append,List.nil_append,aload,acells,getArr,part,astore,putCells,List.all_cons,List.all_nil,cellOk,Bool.and_self,List.drop_zero,List.drop_succ_cons,List.take_succ_cons,List.take_zero,List.take_nil,List.cons_append,List.nil_append,List.set_cons_zero,ii,p1,q1,q2,q4,e,q6',q7,q8,resAll,resVals,resVal,Option.some.injEq,Prod.mk.injEq,true_and,exists_eq']
      case neg =>
      by_cases q9 : (g.levels.length : Int) < x.level
      case pos =>
        rw [if_pos (.inr q9)]
        simp only [Zaa,Zab,Zac,Zad,Zae,Zaf,Zag,Zai,Zaj,Zak,Zam,Zap,Zar,Zas,Zat,Zay,Zaz,Zba,Zbb,Zbc,Zbe,Zbg,Zbh,Zbi,Zbj,Zbk,Zbl,Zbm,Zbn,Zbo,Zbp,Zbq,Zby,Zcb,Zcg,Zcr,Zct,Zcu,Zcv,Zcw,Zcx,Zda,Zdb,Zdc,List.set_cons_zero,List.set_cons_succ,List.getD_cons_zero,List.getD_cons_succ,Option.bind_some,Option.map_some,Zdg,Zdi,Zdj,Zdl,Zds,Zdw,Zdy,Zdz,Zea,Zeo,Zep,decide_true,decide_false,Bool.not_true,Bool.not_false,List.getElem?_cons_zero,List.getElem?_cons_succ,List.length_cons,List.length_nil,if_true,Nat.reduceAdd,Nat.reduceSub,Nat.reduceLeDiff,eq_self,and_self,true_and,List.length_map,List.length_cons,List.length_nil,List.replicate_succ,List.replicate_zero,List.cons_append,List.nil_append,aload,acells,getArr,part,astore,putCells,List.all_cons,List.all_nil,cellOk,Bool.and_self,List.drop_zero,List.drop_succ_cons,List.take_succ_cons,List.take_zero,List.take_nil,List.cons_append,List.nil_append,List.set_cons_zero,List.length_map,ii,p1,q1,q2,q4,e,q6',q7,q8,q9,resAll,resVals,resVal,Option.some.injEq,Prod.mk.injEq,true_and,exists_eq']
      case neg =>
        rw [if_neg (by omega)]
        simp only [Zaa,Zab,Zac,Zad,Zae,Zaf,Zag,Zai,Zaj,Zak,Zap,Zas,Zat,Zay,Zaz,Zba,Zbb,Zbc,Zbe,Zbg,Zbh,Zbi,Zbj,Zbk,Zbl,Zbm,Zbn,Zbo,Zbp,Zbq,Zby,Zcb,Zcg,Zcr,Zct,Zcu,Zcv,Zcw,Zcx,Zda,Zdb,Zdc,List.set_cons_zero,List.set_cons_succ,List.getD_cons_zero,List.getD_cons_succ,Option.bind_some,Option.map_some,Zdg,Zdi,Zdj,Zdl,Zds,Zdw,Zdy,Zdz,Zea,Zeo,Zep,decide_true,decide_false,Bool.not_true,Bool.not_false,List.getElem?_cons_zero,List.getElem?_cons_succ,List.length_cons,List.length_nil,if_true,Nat.reduceAdd,Nat.reduceSub,Nat.reduceLeDiff,eq_self,and_self,true_and,List.length_map,List.length_cons,List.length_nil,List.replicate_succ,List.replicate_zero,List.cons_append,List.nil_append,aload,acells,getArr,part,astore,putCells,List.all_cons,List.all_nil,cellOk,Bool.and_self,List.drop_zero,List.drop_succ_cons,List.take_succ_cons,List.take_zero,List.take_nil,List.cons_append,List.nil_append,List.set_cons_zero,List.length_map,ii,p1,q1,q2,q4,e,q6',q7,q8,q9,resAll,resVals,resVal,Option.some.injEq,Prod.mk.injEq,true_and,exists_eq']
end Go.Proofs.Ytkimloceaihplaa.Ai
