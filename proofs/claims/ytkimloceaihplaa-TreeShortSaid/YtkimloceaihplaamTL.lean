/- TreeOf: the law. -/
import Derived.Test.YtkimloceaihplaamTK
import Derived.Test.YtkimloceaihplaamKn1
import Derived.Test.YtkimloceaihplaamFw1
import Derived.Test.YtkimloceaihplaamTJ
namespace Go.Proofs.Ytkimloceaihplaa.Ai
open Go Go.Proofs
open AV renaming junk → J
open List renaming set_cons_zero → Q0, length_cons → Q1, length_nil → Q2, getElem?_cons_zero → Q3, cons_append → Q4, nil_append → Q5, getElem?_cons_succ → Q6, getD_cons_zero → Q7, getD_cons_succ → Q8, take_succ_cons → Q9, set_cons_succ → Z0, drop_zero → Z1, drop_succ_cons → Z2, replicate_succ → Z4, replicate_zero → Z5, take_nil → Z7, take_zero → Y1
open Option renaming bind_some → Z3, map_some → Z8
open Option.some renaming injEq → Z6
open Bool renaming not_false → Z9, false_and → Y0
set_option linter.unusedVariables false
set_option linter.unusedSimpArgs false
set_option maxRecDepth 10000
set_option maxHeartbeats 4000000
theorem r_SameN : ∀ a, sizeN a ≤ 1000000 → ∀ ca b cb, Enc a ca → Enc b cb → ∀ H, lim G0.cfg (.func 24) [.agg ca, .agg cb] H = some (.bool (sameB a b), H) := by
 intro a
 induction a using T.ind with
 | _ s r ks ih =>
 intro hok ca b cb ha hb H
 obtain ⟨s', r', ks'⟩ := b
 have hlen : (ks.length : Int) ≤ sizeNs ks := len_sizeNs ks
 simp only [sizeN] at hok
 refine lim_flat rfl rfl P_r20_Same (ks.length + 1) (fun h => fz_2 (fz_enc ha h) (fz_enc hb h)) ?_ (fun _ => rfl) H
 obtain ⟨kv, rfl, la, xa, _⟩ := ha.open
 obtain ⟨kw, rfl, lb, xb, _⟩ := hb.open
 have loop : ∀ (d i m : Nat), ks.length = i + d → d < m → ks.length = ks'.length →
   loopN (evalCode (lim G0.cfg) (ks.length + 1) B_r20_Same_0) m ⟨(J::J::.ptr 0 0 0 0 :: .ptr 1 0 0 0::J::.int .i64 i::J::J::J::J::J::J::J::J::J::J::J::J::J::J::J::J::J::J::J::J::J::J::J::J::J::J::J::J::J::J::J::J::J::J::J::J::J::J::J::J::[]), [.arr 0 3 true [[.int .i64 s, .int .i64 r, kv]], .arr 0 3 true [[.int .i64 s', .int .i64 r', kw]]]⟩ =
    (bif sameBs (ks.drop i) (ks'.drop i) then some (.exit 0, ⟨(J::J::J::J::J::J::J::J::J::J::J::J::J::J::J::J::J::J::J::J::J::J::J::J::J::J::J::J::J::J::J::J::J::J::J::J::J::J::J::J::J::J::J::J::J::J::[]), [.arr 0 3 true [[.int .i64 s, .int .i64 r, kv]], .arr 0 3 true [[.int .i64 s', .int .i64 r', kw]]]⟩)
     else some (.ret, ⟨(J::J::J::J::.bool false::J::J::J::J::J::J::J::J::J::J::J::J::J::J::J::J::J::J::J::J::J::J::J::J::J::J::J::J::J::J::J::J::J::J::J::J::J::J::J::J::J::[]), [.arr 0 3 true [[.int .i64 s, .int .i64 r, kv]], .arr 0 3 true [[.int .i64 s', .int .i64 r', kw]]]⟩)) := by
  intro d
  induction d with
  | zero =>
   intro i m h1 h3 hl
   obtain ⟨m, rfl⟩ : ∃ q, m = q + 1 := ⟨m - 1, by omega⟩
   have e1 : ks.drop i = [] := List.drop_eq_nil_iff.2 (by omega)
   have h5 : ¬ ((i : Int) < ks.length) := by omega
   rw [e1]
   simp only [loop_e,EB_r20_Same_0,Zab,Zac,Zad,Zag,Zah,Zaj,Zak,Zal,Zas,Zav,Zay,Zbi,Zbk,Zbo,Zbq,Zby,Zcg,Zcv,Zcx,Zdc,Zdd,Q0,Z0,Q7,Q8,Z3,Zdh,Zdx,Zdz,decide_false,Q3,Q1,Q2,if_true,Nat.reduceAdd,Nat.reduceLeDiff,eq_self,cond_true,aload,acells,getArr,part,Z1,Z2,Q9,Z7,Q0,la,h5,sameBs]
  | succ d ihd =>
   intro i m h1 h3 hl
   obtain ⟨m, rfl⟩ : ∃ q, m = q + 1 := ⟨m - 1, by omega⟩
   have h5 : i < ks.length := by omega
   have h5' : (i : Int) < ks.length := by omega
   have h6 : i < ks'.length := by omega
   have e1 : ks.drop i = ks[i] :: ks.drop (i + 1) := List.drop_eq_getElem_cons h5
   have e2 : ks'.drop i = ks'[i] :: ks'.drop (i + 1) := List.drop_eq_getElem_cons h6
   have hw := w64s (n := i) (by omega)
   have hmem : ks[i] ∈ ks := List.getElem_mem h5
   obtain ⟨ci, ei, xi⟩ := xa i h5
   obtain ⟨cj, ej, xj⟩ := xb i h6
   have hc := ih ks[i] hmem (by have := sizeNs_mem hmem; omega) ci _ cj ei ej
   obtain ⟨ki, rfl⟩ := ei.cells
   obtain ⟨kj, rfl⟩ := ej.cells
   rw [e1, e2]
   simp only [sameBs]
   cases q : sameB ks[i] ks'[i]
   case false =>
    rw [q] at hc
    simp only [loop_e,EB_r20_Same_0,Zaa,Zab,Zac,Zad,Zae,Zag,Zai,Zaj,Zak,Zam,Zao,Zar,Zaw,Zay,Zaz,Zbi,Zbk,Zbo,Zbq,Zbr,Zby,Zcb,Zcg,Zcp,Zcq,Zcv,Zcw,Zcx,Zcz,Zda,Zdb,Zdc,Zdd,Q0,Z0,Q7,Q8,Z3,Zdh,Zdr,Zdx,Zdz,Zea,decide_true,Z9,Q3,Q6,Q1,Q2,if_true,Nat.reduceAdd,Nat.reduceLeDiff,eq_self,cond_false,aload,acells,getArr,part,Z1,Z2,Q9,Z7,Q4,Q5,Q0,la,h5',xi,xj,hc,Y0]
   case true =>
    rw [q] at hc
    have e := ihd (i + 1) m (by omega) (by omega) hl
    rw [Bool.true_and, ← e]
    simp only [loop_e,EB_r20_Same_0,Zaa,Zab,Zac,Zad,Zae,Zag,Zaj,Zak,Zan,Zar,Zas,Zau,Zay,Zaz,Zbi,Zbk,Zbo,Zbq,Zbr,Zby,Zcb,Zcg,Zcp,Zcq,Zcv,Zcw,Zcx,Zcz,Zda,Zdb,Zdc,Zdd,Q0,Z0,Q7,Q8,Z3,Zde,Zdh,Zdr,Zdx,Zdz,Zea,decide_true,Bool.not_true,Q3,Q6,Q1,Q2,if_true,Nat.reduceAdd,Nat.reduceLeDiff,eq_self,aload,acells,getArr,part,Z1,Z2,Q9,Z7,Q4,Q5,Q0,la,h5',xi,xj,hc,hw]
 rw [R_r20_Same]
 by_cases q1 : s = s'
 case neg => simp only [Zab,Zac,Zad,Zai,Zaj,Zak,Zam,Zar,Zay,Zaz,Zbd,Zbg,Zbi,Zbj,Zbk,Zbl,Zbn,Zbo,Zbq,Zby,Zcs,Zcu,Zcv,Zcw,Zcx,Q0,Z0,Q7,Q8,Z3,Z8,Zdm,Zdx,Zdz,Zeb,decide_false,Z9,Q3,Q6,Q1,Q2,if_true,Nat.reduceAdd,Nat.reduceSub,Nat.reduceLeDiff,eq_self,true_and,Q1,Q2,Z4,Z5,Q4,Q5,aload,acells,getArr,part,Z1,Q9,Y1,Q4,Q5,Q0,q1,sameB,resAll,resVals,resVal,Z6,Prod.mk.injEq,true_and,Y0,exists_eq']
 case pos =>
 by_cases q2 : r = r'
 case neg => simp only [Zab,Zac,Zad,Zai,Zaj,Zak,Zam,Zar,Zay,Zaz,Zbc,Zbd,Zbg,Zbh,Zbi,Zbj,Zbk,Zbl,Zbn,Zbo,Zbq,Zby,Zcs,Zcu,Zcv,Zcw,Zcx,Q0,Z0,Q7,Q8,Z3,Z8,Zdm,Zdx,Zdz,Zeb,decide_true,decide_false,Bool.not_true,Z9,Q3,Q6,Q1,Q2,if_true,Nat.reduceAdd,Nat.reduceSub,Nat.reduceLeDiff,eq_self,true_and,Q1,Q2,Z4,Z5,Q4,Q5,aload,acells,getArr,part,Z1,Z2,Q9,Y1,Q4,Q5,Q0,q1,q2,sameB,resAll,resVals,resVal,Z6,Prod.mk.injEq,true_and,Y0,Bool.and_false,exists_eq']
 case pos =>
 by_cases q3 : (ks.length : Int) = ks'.length
 case neg => simp only [Zab,Zac,Zad,Zai,Zaj,Zak,Zam,Zar,Zay,Zaz,Zbc,Zbh,Zbi,Zbj,Zbk,Zbl,Zbn,Zbo,Zbq,Zby,Zcg,Zcs,Zcu,Zcv,Zcw,Zcx,Q0,Z0,Q7,Q8,Z3,Z8,Zdm,Zdx,Zdz,Zeb,decide_true,decide_false,Bool.not_true,Z9,Q3,Q6,Q1,Q2,if_true,Nat.reduceAdd,Nat.reduceSub,Nat.reduceLeDiff,eq_self,true_and,Q1,Q2,Z4,Z5,Q4,Q5,aload,acells,getArr,part,Z1,Z2,Q9,Y1,Z7,Q4,Q5,Q0,q1,q2,la,lb,q3,sameB,resAll,resVals,resVal,Z6,Prod.mk.injEq,true_and,Y0,Bool.and_false,exists_eq']
 case pos =>
 have e := loop ks.length 0 (ks.length + 1) (by omega) (by omega) (by omega)
 rw [Z1, Z1, z0] at e
 subst q1 q2
 cases q : sameBs ks ks'
 all_goals
  rw [q] at e
  simp only [cond_true,cond_false] at e
  simp only [Zaa,Zab,Zac,Zad,Zae,Zaf,Zag,Zai,Zaj,Zak,Zam,Zao,Zap,Zas,Zat,Zay,Zaz,Zbc,Zbh,Zbi,Zbj,Zbk,Zbl,Zbn,Zbo,Zbq,Zby,Zcg,Zcs,Zcu,Zcv,Zcw,Zcx,Zdb,Zdc,Zdd,Q0,Z0,Q7,Q8,Z3,Z8,Zdm,Zdx,Zdz,Zeb,decide_true,Bool.not_true,Q3,Q6,Q1,Q2,if_true,Nat.reduceAdd,Nat.reduceSub,Nat.reduceLeDiff,eq_self,true_and,Q1,Q2,Z4,Z5,Q4,Q5,aload,acells,getArr,part,Bool.and_self,Z1,Z2,Q9,Y1,Z7,Q4,Q5,Q0,la,lb,q3,e,sameB,q,resAll,resVals,resVal,Z6,Prod.mk.injEq,true_and,Bool.and_false,exists_eq']
section
variable {g : GramD} {ws ms : List Int} (c1 : ∀ H, lim G0.cfg (.func 9) [.agg (eGram g)] H = some (.bool true, H)) (q1 : ¬ (100 : Int) < ws.length) (q2 : ¬ (60 : Int) < ms.length)
include c1 q1 q2
end
end Go.Proofs.Ytkimloceaihplaa.Ai
namespace Go.Proofs.Ytkimloceaihplaa.Ai
open Go Go.Proofs
open List renaming set_cons_zero → Q0, length_cons → Q1, cons_append → Q2, length_nil → Q3, nil_append → Q4, getElem?_cons_zero → Q5, getD_cons_zero → Q6, getD_cons_succ → Q7, replicate_succ → Q8, replicate_zero → Q9, take_succ_cons → Z0, set_cons_succ → Z1, drop_zero → Z5, take_nil → Z6
open Option.some renaming injEq → Z2
open Option renaming bind_some → Z3, map_some → Z4
set_option linter.unusedVariables false
set_option linter.unusedSimpArgs false
set_option maxRecDepth 10000
set_option maxHeartbeats 4000000
section
variable {g : GramD} {y : List Int} {xy : AV}
theorem f_short (hy : Li y xy) (my : ∀ H, lim G0.cfg (.func 50) [.agg (eGram g)] H = some (xy, H)) (ly : y.length ≤ 1000000) {s : Int} (hi : inI64 s) (H : AHeap) : lim G0.cfg (.func 27) [.agg (eGram g), .int .i64 s] H = some (.bool (decide (0 ≤ s) || (decide (s < -(y.length : Int)) || decide (y.getD (nx s) (-1) < 40))), H) := by
 refine lim_flat rfl rfl P_l20_short 1 (fun h => fz_2 (fz_gram g h) rfl) ?_ (fun _ => rfl) H
 have ln := hy.len
 rw [R_l20_short]
 by_cases p : 0 ≤ s
 ·simp only [Zab,Zac,Zai,Zaj,Zak,Zay,Zaz,Zbd,Zbg,Zbi,Zbj,Zbk,Zbl,Zbn,Zbo,Zbq,Zcp,Zcq,Zcs,Zcu,Zcv,Zcw,Zcx,Zcz,Zda,Q0,Z1,Q6,Q7,Z3,Z4,Zdk,Zea,Zeb,decide_true,Q5,Q1,Q3,if_true,Nat.reduceAdd,Nat.reduceSub,Nat.reduceLeDiff,Int.reduceNeg,eq_self,true_and,Q1,Q3,Q8,Q9,Q2,Q4,aload,acells,getArr,part,Z5,Z0,Z6,Q2,Q4,Q0,my,p,resAll,resVals,resVal,Z2,Prod.mk.injEq,true_and,Bool.true_or,exists_eq']
 ·have w0 : IntKind.i64.wrap (-(y.length : Int)) = -(y.length : Int) := w64 (by omega) (by omega)
  by_cases q : s < -(y.length : Int)
  ·simp only [Zab,Zac,Zai,Zaj,Zak,Zay,Zaz,Zbc,Zbd,Zbg,Zbh,Zbi,Zbj,Zbk,Zbl,Zbn,Zbo,Zbq,Zbr,Zcg,Zcp,Zcq,Zcs,Zcu,Zcv,Zcw,Zcx,Zcz,Zda,Q0,Z1,Q6,Q7,Z3,Z4,Zdh,Zdk,Zds,Zea,Zeb,decide_true,decide_false,Q5,Q1,Q3,if_true,Nat.reduceAdd,Nat.reduceSub,Nat.reduceLeDiff,Int.reduceNeg,eq_self,true_and,Q1,Q3,Q8,Q9,Q2,Q4,aload,acells,getArr,part,Z5,Z0,Z6,Q2,Q4,Q0,my,p,ln,w0,q,resAll,resVals,resVal,Z2,Prod.mk.injEq,true_and,Bool.true_or,Bool.or_true,exists_eq']
  ·have lk : nx s < y.length := by unfold nx; omega
   have x1 := fun H => hy.ix H .i64 (nx s) lk
   have e1 : ((nx s : Nat) : Int) = -1 - s := by unfold nx; omega
   rw [e1, ← getD_get lk (-1)] at x1
   have w1 : IntKind.i64.wrap (-1 - s) = -1 - s := w64 (by omega) (by omega)
   simp only [Zab,Zac,Zai,Zaj,Zak,Zay,Zaz,Zbc,Zbh,Zbi,Zbj,Zbk,Zbl,Zbn,Zbo,Zbq,Zbr,Zcb,Zcg,Zcp,Zcq,Zcs,Zcu,Zcv,Zcw,Zcx,Zcz,Zda,Q0,Z1,Q6,Q7,Z3,Z4,Zdf,Zdh,Zdk,Zds,Zdz,Zea,Zeb,decide_false,Q5,Q1,Q3,if_true,Nat.reduceAdd,Nat.reduceSub,Nat.reduceLeDiff,Int.reduceNeg,eq_self,true_and,Q1,Q3,Q8,Q9,Q2,Q4,aload,acells,getArr,part,eI,Z5,Z0,Z6,Q2,Q4,Q0,my,p,ln,w0,q,w1,x1,resAll,resVals,resVal,Z2,Prod.mk.injEq,true_and,Bool.false_or,exists_eq']
end
section
variable {g : GramD} {s : Int} (c1 : ∀ H, lim G0.cfg (.func 9) [.agg (eGram g)] H = some (.bool true, H)) (c2 : ∀ H, lim G0.cfg (.func 27) [.agg (eGram g), .int .i64 s] H = some (.bool true, H))
include c1 c2
theorem f_TreeShort_ok {a b a' b' : Int} {kv kv' : AV} (hkv : kv = .nilS ∨ ∃ e rows, kv = .vsl e rows) (hkv' : kv' = .nilS ∨ ∃ e rows, kv' = .vsl e rows)
  (d1 : ∀ H, lim G0.cfg (.func 28) [.agg (eGram g), .int .i64 s] H = some (.tup [.agg [.int .i64 a, .int .i64 b, kv], .int .i64 0], H))
  (d2 : ∀ H, lim G0.cfg (.func 29) [.agg (eGram g), .int .i64 s] H = some (.tup [.agg [.int .i64 a', .int .i64 b', kv'], .int .i64 0], H))
  (d3 : ∀ H, lim G0.cfg (.func 24) [.agg [.int .i64 a, .int .i64 b, kv], .agg [.int .i64 a', .int .i64 b', kv']] H = some (.bool true, H)) :
  ∃ h', runFn (lim G0.cfg) 1 A_l20_TreeShort [.agg (eGram g), .int .i64 s] [] = some (.bool true, h') := by
 have hk := knows
 rw [R_l20_TreeShort]
 rcases hkv with rfl | ⟨e9, rows, rfl⟩ <;> rcases hkv' with rfl | ⟨e8, rows8, rfl⟩ <;> simp only [Zaa,Zab,Zac,Zad,Zai,Zaj,Zak,Zas,Zay,Zaz,Zba,Zbb,Zbc,Zbg,Zbh,Zbi,Zbj,Zbk,Zbl,Zbm,Zbn,Zbo,Zbp,Zbq,Zbr,Zcf,Zcp,Zcq,Zcs,Zcu,Zcv,Zcw,Zcx,Zcy,Zcz,Zda,Q0,Z1,Q6,Q7,Z3,Z4,Zdm,Zdr,Zea,Zeb,Zem,decide_true,Bool.not_true,Q5,List.getElem?_cons_succ,Q1,Q3,if_true,Nat.reduceAdd,Nat.reduceSub,Nat.reduceLeDiff,eq_self,and_self,true_and,Q1,Q3,Q8,Q9,Q2,Q4,aload,acells,getArr,part,astore,putCells,List.all_cons,List.all_nil,cellOk,Bool.and_self,Z5,List.drop_succ_cons,Z0,List.take_zero,Z6,Q2,Q4,Q0,c1,c2,d1,d2,d3,hk,resAll,resVals,resVal,Z2,Prod.mk.injEq,true_and,exists_eq']
theorem f_TreeShort_err {e : Int} (q3 : e ≠ 0)
  (d1 : ∀ H, lim G0.cfg (.func 28) [.agg (eGram g), .int .i64 s] H = some (.tup [.agg [.int .i64 0, .int .i64 0, .nilS], .int .i64 e], H))
  (d2 : ∀ H, lim G0.cfg (.func 29) [.agg (eGram g), .int .i64 s] H = some (.tup [.agg [.int .i64 0, .int .i64 0, .nilS], .int .i64 e], H)) :
  ∃ h', runFn (lim G0.cfg) 1 A_l20_TreeShort [.agg (eGram g), .int .i64 s] [] = some (.bool true, h') := by
 have hk := knows
 rw [R_l20_TreeShort]
 have q3' : decide (e = 0) = false := decide_eq_false q3
 simp only [Zaa,Zab,Zac,Zad,Zai,Zaj,Zak,Zam,Zar,Zas,Zay,Zaz,Zba,Zbb,Zbc,Zbg,Zbh,Zbi,Zbj,Zbk,Zbl,Zbm,Zbn,Zbo,Zbp,Zbq,Zbr,Zby,Zcf,Zcg,Zcp,Zcq,Zcs,Zcu,Zcv,Zcw,Zcx,Zcy,Zcz,Zda,Q0,Z1,Q6,Q7,Z3,Z4,Zdl,Zdm,Zdr,Zdu,Zdx,Zdz,Zea,Zeb,Zem,decide_true,Bool.not_true,Bool.not_false,Q5,List.getElem?_cons_succ,Q1,Q3,if_true,Nat.reduceAdd,Nat.reduceSub,Nat.reduceLeDiff,eq_self,and_self,true_and,Q1,Q3,Q8,Q9,Q2,Q4,aload,acells,getArr,part,astore,putCells,List.all_cons,List.all_nil,cellOk,Bool.and_self,Z5,List.drop_succ_cons,Z0,List.take_zero,Z6,Q2,Q4,Q0,c1,c2,d1,d2,q3',hk,resAll,resVals,resVal,Z2,Prod.mk.injEq,true_and,exists_eq']
end
theorem f_TreeShort (g : GramD) (hg : g.Ok) (s : Int) (hi : inI64 s) (H : AHeap) : lim G0.cfg (.func 6) [.agg (eGram g), .int .i64 s] H = some (.bool true, H) := by
 refine lim_flat rfl rfl P_l20_TreeShort 1 (fun h => fz_2 (fz_gram g h) rfl) ?_ (fun _ => rfl) H
 obtain ⟨fw, c1⟩ := f_Few g hg
 have hk := knows
 cases fw
 case false =>
  rw [R_l20_TreeShort]
  simp only [Zab,Zac,Zad,Zai,Zaj,Zak,Zam,Zar,Zay,Zaz,Zbd,Zbg,Zbi,Zbj,Zbk,Zbl,Zbn,Zbo,Zbr,Zcp,Zcq,Zcs,Zcu,Zcv,Zcw,Zcx,Zcz,Zda,Q0,Z1,Q6,Q7,Z3,Z4,Zdr,Zea,Zeb,Bool.not_false,Q5,Q1,Q3,if_true,Nat.reduceAdd,Nat.reduceSub,Nat.reduceLeDiff,eq_self,true_and,Q1,Q3,Q8,Q9,Q2,Q4,aload,acells,getArr,part,Z5,Z0,Z6,Q2,Q4,Q0,c1,hk,resAll,resVals,resVal,Z2,Prod.mk.injEq,true_and,exists_eq']
 case true =>
 by_cases h0 : gramErr g = 0
 case neg =>
  have c2 := f_short (y := []) (xy := .nilS) (.inl ⟨rfl, rfl⟩) (r_MinYields_bad g hg h0) (by simp) hi
  have eb : (decide (0 ≤ s) || (decide (s < -((([] : List Int).length : Nat) : Int)) || decide (([] : List Int).getD (nx s) (-1) < 40))) = true := by
   by_cases p : 0 ≤ s
   ·rw [decide_eq_true p]; rfl
   ·rw [decide_eq_true (by simp; omega : s < -((([] : List Int).length : Nat) : Int))]; simp
  rw [eb] at c2
  exact f_TreeShort_err c1 c2 h0 (f_Short_bad g hg s h0) (r_Short_bad g hg s h0)
 case pos =>
 have hr : GramR g := ⟨hg, good_of h0⟩
 obtain ⟨L, w, ⟨kL, hL⟩, hl, ok, mc⟩ := f_costs hr
 obtain ⟨y, xy, ⟨ky, hY⟩, hy, my⟩ := r_MinYields hr h0
 have F0 := fix_of hr.vr hL hY
 have ly := F0.lenY
 have yok : YOk g.nonterms.length y := steps_inv (YOk g.nonterms.length) (fun l l' r hr' h1 h2 => (yUpd_ok hr.vr hr' h1 h2).1) _ _ _ hY ⟨by simp, fun c hc => .inl (List.eq_of_mem_replicate hc)⟩
 have yb : ∀ c ∈ y, -1 ≤ c ∧ c ≤ most := fun c hc => by
  have := yok.rng c hc
  have fm : most = 1000000 := rfl
  omega
 obtain ⟨h, xh, ⟨kh, hH⟩, hh, hok, mh⟩ := r_Heights hr hy ly yb my
 have F := fix3_of hr.vr F0 hL hH
 have nt := hr.good.nt
 have c2 := f_short hy my (by omega) hi
 cases hb : (decide (0 ≤ s) || (decide (s < -(y.length : Int)) || decide (y.getD (nx s) (-1) < 40)))
 case false =>
  rw [hb] at c2
  rw [R_l20_TreeShort]
  simp only [Zab,Zac,Zad,Zai,Zaj,Zak,Zam,Zar,Zay,Zaz,Zbc,Zbh,Zbi,Zbj,Zbk,Zbl,Zbn,Zbo,Zbr,Zcp,Zcq,Zcs,Zcu,Zcv,Zcw,Zcx,Zcz,Zda,Q0,Z1,Q6,Q7,Z3,Z4,Zdr,Zea,Zeb,Bool.not_true,Bool.not_false,Q5,Q1,Q3,if_true,Nat.reduceAdd,Nat.reduceSub,Nat.reduceLeDiff,eq_self,true_and,Q1,Q3,Q8,Q9,Q2,Q4,aload,acells,getArr,part,Z5,Z0,Z6,Q2,Q4,Q0,c1,c2,hk,resAll,resVals,resVal,Z2,Prod.mk.injEq,true_and,exists_eq']
 case true =>
 rw [hb] at c2
 simp only [Bool.or_eq_true,decide_eq_true_eq] at hb
 cases hs : isSym g s
 case false => exact f_TreeShort_err c1 c2 (by decide) (f_Short_sym hr h0 hi hs) (r_Short_sym hr h0 s hs)
 case true =>
 have hs' := hs
 simp only [isSym,Bool.and_eq_true,decide_eq_true_eq] at hs'
 by_cases us : s < 0 ∧ y.getD (nx s) (-1) < 0
 case pos => exact f_TreeShort_err c1 c2 (by decide) (f_Short_useless hr h0 F hl ok mc hi hs us.1 us.2) (r_Short_useless hr h0 hi hs hy ly my us.1 us.2)
 case neg =>
 have fm : most = 1000000 := rfl
 have hS : Sm g.nonterms.length y s := by
  by_cases p : 0 ≤ s
  ·exact .inl p
  ·refine .inr ⟨by unfold nx; omega, by omega, ?_⟩
   rcases hb with hb | hb | hb <;> omega
 have h4 : s < 0 → y.getD (nx s) (-1) < 65536 := fun p => by
  rcases hb with hb | hb | hb <;> omega
 obtain ⟨p1, p2⟩ := f_Short_ok hr h0 F hok hl ok mc hi hs hS h4 (g.nonterms.length + 1) (Nat.le_refl _)
 obtain ⟨r1, r2⟩ := r_Short_ok hr h0 F hok hy hh yb my mh hi hs hS h4 (g.nonterms.length + 1) (Nat.le_refl _)
 by_cases fit : sizeN (shT g.rules y h (g.nonterms.length + 1) s) ≤ 65536
 case neg => exact f_TreeShort_err c1 c2 (by decide) (p2 fit) (r2 fit)
 case pos =>
 obtain ⟨c, hE, d1⟩ := p1 fit
 obtain ⟨c', hE', d2⟩ := r1 fit
 have d3 := r_SameN _ (by omega) c _ c' hE hE'
 rw [sameB_self] at d3
 obtain ⟨kv, rfl, hkv⟩ := hE.kv3
 obtain ⟨kv', rfl, hkv'⟩ := hE'.kv3
 exact f_TreeShort_ok c1 c2 hkv hkv' d1 d2 d3
end Go.Proofs.Ytkimloceaihplaa.Ai
