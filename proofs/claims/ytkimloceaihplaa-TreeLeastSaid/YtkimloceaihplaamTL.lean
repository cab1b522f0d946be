/- TreeOf: the law. -/
import Derived.Test.YtkimloceaihplaamTK
import Derived.Test.YtkimloceaihplaamKn1
import Derived.Test.YtkimloceaihplaamFw1
import Derived.Test.YtkimloceaihplaamTJ
namespace Go.Proofs.Ytkimloceaihplaa.Ai
open Go Go.Proofs
set_option linter.unusedVariables false
set_option linter.unusedSimpArgs false
set_option maxRecDepth 10000
set_option maxHeartbeats 4000000
section
variable {g : GramD} {ws ms : List Int} (c1 : ∀ H, lim G0.cfg (.func 9) [.agg (eGram g)] H = some (.bool true, H)) (q1 : ¬ (100 : Int) < ws.length) (q2 : ¬ (60 : Int) < ms.length)
include c1 q1 q2
end
end Go.Proofs.Ytkimloceaihplaa.Ai
namespace Go.Proofs.Ytkimloceaihplaa.Ai
open Go Go.Proofs
open List renaming set_cons_zero → Q0, length_cons → Q1, cons_append → Q2, length_nil → Q3, nil_append → Q4, getElem?_cons_zero → Q5, getD_cons_zero → Q6, getD_cons_succ → Q7, replicate_succ → Q8, replicate_zero → Q9, take_succ_cons → Z0
set_option linter.unusedVariables false
set_option linter.unusedSimpArgs false
set_option maxRecDepth 10000
set_option maxHeartbeats 4000000
section
variable {g : GramD} {y : List Int} {xy : AV}
theorem f_short (hy : Li y xy) (my : ∀ H, lim G0.cfg (.func 50) [.agg (eGram g)] H = some (xy, H)) (ly : y.length ≤ 1000000) {s : Int} (hi : inI64 s) (H : AHeap) : lim G0.cfg (.func 27) [.agg (eGram g), .int .i64 s] H = some (.bool (decide (0 ≤ s) || (decide (s < -(y.length : Int)) || decide (y.getD (nx s) (-1) < 40))), H) := by
 refine lim_flat rfl rfl P_l20_short 1 (fun h => fz_2 (fz_gram g h) rfl) ?_ (fun _ => rfl) H
 have ln := hy.len
 rw [R_l20_short]
 by_cases p : 0 ≤ s
 ·simp only [Zab,Zac,Zai,Zaj,Zak,Zay,Zaz,Zbd,Zbg,Zbi,Zbj,Zbk,Zbl,Zbn,Zbo,Zbq,Zcp,Zcq,Zcs,Zcu,Zcv,Zcw,Zcx,Zcz,Zda,Q0,List.set_cons_succ,Q6,Q7,Option.bind_some,Option.map_some,Zdk,Zea,Zeb,decide_true,Q5,Q1,Q3,if_true,Nat.reduceAdd,Nat.reduceSub,Nat.reduceLeDiff,Int.reduceNeg,eq_self,true_and,Q1,Q3,Q8,Q9,Q2,Q4,aload,acells,getArr,part,List.drop_zero,Z0,List.take_nil,Q2,Q4,Q0,my,p,resAll,resVals,resVal,Option.some.injEq,Prod.mk.injEq,true_and,Bool.true_or,exists_eq']
 ·have w0 : IntKind.i64.wrap (-(y.length : Int)) = -(y.length : Int) := w64 (by omega) (by omega)
  by_cases q : s < -(y.length : Int)
  ·simp only [Zab,Zac,Zai,Zaj,Zak,Zay,Zaz,Zbc,Zbd,Zbg,Zbh,Zbi,Zbj,Zbk,Zbl,Zbn,Zbo,Zbq,Zbr,Zcg,Zcp,Zcq,Zcs,Zcu,Zcv,Zcw,Zcx,Zcz,Zda,Q0,List.set_cons_succ,Q6,Q7,Option.bind_some,Option.map_some,Zdh,Zdk,Zds,Zea,Zeb,decide_true,decide_false,Q5,Q1,Q3,if_true,Nat.reduceAdd,Nat.reduceSub,Nat.reduceLeDiff,Int.reduceNeg,eq_self,true_and,Q1,Q3,Q8,Q9,Q2,Q4,aload,acells,getArr,part,List.drop_zero,Z0,List.take_nil,Q2,Q4,Q0,my,p,ln,w0,q,resAll,resVals,resVal,Option.some.injEq,Prod.mk.injEq,true_and,Bool.true_or,Bool.or_true,exists_eq']
  ·have lk : nx s < y.length := by unfold nx; omega
   have x1 := fun H => hy.ix H .i64 (nx s) lk
   have e1 : ((nx s : Nat) : Int) = -1 - s := by unfold nx; omega
   rw [e1, ← getD_get lk (-1)] at x1
   have w1 : IntKind.i64.wrap (-1 - s) = -1 - s := w64 (by omega) (by omega)
   simp only [Zab,Zac,Zai,Zaj,Zak,Zay,Zaz,Zbc,Zbh,Zbi,Zbj,Zbk,Zbl,Zbn,Zbo,Zbq,Zbr,Zcb,Zcg,Zcp,Zcq,Zcs,Zcu,Zcv,Zcw,Zcx,Zcz,Zda,Q0,List.set_cons_succ,Q6,Q7,Option.bind_some,Option.map_some,Zdf,Zdh,Zdk,Zds,Zdz,Zea,Zeb,decide_false,Q5,Q1,Q3,if_true,Nat.reduceAdd,Nat.reduceSub,Nat.reduceLeDiff,Int.reduceNeg,eq_self,true_and,Q1,Q3,Q8,Q9,Q2,Q4,aload,acells,getArr,part,eI,List.drop_zero,Z0,List.take_nil,Q2,Q4,Q0,my,p,ln,w0,q,w1,x1,resAll,resVals,resVal,Option.some.injEq,Prod.mk.injEq,true_and,Bool.false_or,exists_eq']
end
section
variable {g : GramD} {s : Int} (c1 : ∀ H, lim G0.cfg (.func 9) [.agg (eGram g)] H = some (.bool true, H)) (c2 : ∀ H, lim G0.cfg (.func 27) [.agg (eGram g), .int .i64 s] H = some (.bool true, H))
include c1 c2
end
end Go.Proofs.Ytkimloceaihplaa.Ai
