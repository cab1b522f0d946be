/- PackAt: the law. -/
import Derived.Test.YtkgndbhflehhhaapPk2
import Derived.Test.YtkgndbhflehhhaapKp1
namespace Go.Proofs.Ytkgndbhflehhhaa.Ai
open Go Go.Proofs
set_option linter.unusedVariables false
set_option linter.unusedSimpArgs false
set_option maxRecDepth 10000
set_option maxHeartbeats 4000000

theorem f_PackAt {c : RowT} {cs : List AV} (hc : RT c cs) (hbase : ∀ x ∈ c.base, -9223372036854775808 ≤ x ∧ x ≤ 9223372036854775807) (row col : Int) (hcol : col ≤ 9223372036854775807) (H : AHeap) :
    lim G0.cfg (.func 4) [.agg cs, .int .i64 row, .int .i64 col] H = some (.bool true, H) := by
  refine lim_flat rfl rfl P_l32_PackAt 1 (fun h => fz_3 (fz_RT hc h) rfl rfl) ?_ (fun _ => rfl) H
  have hk := knows
  have c1 := f_fewComb hc
  obtain ⟨few, hf⟩ : ∃ few : Bool, few = (decide ((c.row.length : Int) ≤ 60) && (decide ((c.base.length : Int) ≤ 60) && (decide ((c.val.length : Int) ≤ 1500) && decide ((c.own.length : Int) ≤ 1500)))) := ⟨_, rfl⟩
  rw [← hf] at c1
  cases few
  case false =>
    obtain ⟨a, b, v, o, rfl, ha, hb, hv, ho⟩ := hc
    rw [R_l32_PackAt]
    simp only [Zab,Zac,Zad,Zai,Zaj,Zak,Zam,Zar,Zay,Zaz,Zbi,Zbk,Zbn,Zbo,Zbr,Zcp,Zcq,Zcs,Zcu,Zcv,Zcw,Zcx,Zcz,Zda,List.set_cons_zero,List.set_cons_succ,List.getD_cons_zero,List.getD_cons_succ,Option.bind_some,Option.map_some,Zdr,Zea,Zeb,Bool.not_false,List.getElem?_cons_zero,List.length_cons,List.length_nil,if_true,Nat.reduceAdd,Nat.reduceSub,Nat.reduceLeDiff,eq_self,true_and,List.length_cons,List.length_nil,List.replicate_succ,List.replicate_zero,List.cons_append,List.nil_append,aload,acells,getArr,part,List.drop_zero,List.take_succ_cons,List.take_nil,List.cons_append,List.nil_append,List.set_cons_zero,c1,hk,resAll,resVals,resVal,Option.some.injEq,Prod.mk.injEq,true_and,exists_eq']
  case true =>
    have hf' := hf.symm
    simp only [Bool.and_eq_true,decide_eq_true_eq] at hf'
    have d1 := f_At hc (by omega) (by omega) (by omega) hbase row col hcol
    have d2 := r_At hc (by omega) (by omega) (by omega) hbase row col hcol
    obtain ⟨a, b, v, o, rfl, ha, hb, hv, ho⟩ := hc
    rw [R_l32_PackAt]
    simp only [Zaa,Zab,Zac,Zad,Zai,Zaj,Zak,Zas,Zay,Zaz,Zbb,Zbg,Zbi,Zbj,Zbk,Zbl,Zbn,Zbo,Zbq,Zbr,Zcp,Zcq,Zcs,Zcu,Zcv,Zcw,Zcx,Zcz,Zda,List.set_cons_zero,List.set_cons_succ,List.getD_cons_zero,List.getD_cons_succ,Option.bind_some,Option.map_some,Zdl,Zdr,Zea,Zeb,decide_true,Bool.not_true,List.getElem?_cons_zero,List.length_cons,List.length_nil,if_true,Nat.reduceAdd,Nat.reduceSub,Nat.reduceLeDiff,eq_self,true_and,List.length_cons,List.length_nil,List.replicate_succ,List.replicate_zero,List.cons_append,List.nil_append,aload,acells,getArr,part,List.drop_zero,List.take_succ_cons,List.take_nil,List.cons_append,List.nil_append,List.set_cons_zero,c1,d1,d2,hk,resAll,resVals,resVal,Option.some.injEq,Prod.mk.injEq,true_and,exists_eq']
end Go.Proofs.Ytkgndbhflehhhaa.Ai
