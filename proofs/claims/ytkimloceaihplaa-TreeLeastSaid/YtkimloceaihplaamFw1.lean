/- Is a grammar small enough? -/
import Derived.Test.YtkimloceaihplaamFn
import Derived.Test.YtkimloceaihplaamGA
namespace Go.Proofs.Ytkimloceaihplaa.Ai
open Go Go.Proofs
open AV renaming junk → J
open List renaming set_cons_zero → Q0, length_cons → Q1, length_nil → Q2, cons_append → Q3, getElem?_cons_zero → Q4, nil_append → Q5, getD_cons_zero → Q6, getD_cons_succ → Q7, drop_succ_cons → Q8, take_succ_cons → Q9, set_cons_succ → Z0, length_map → Z2, replicate_succ → Z3, replicate_zero → Z4, drop_zero → Z5, take_zero → Z6, take_nil → Z8
open Option renaming bind_some → Z1, map_some → Z7
set_option linter.unusedVariables false
set_option linter.unusedSimpArgs false
set_option maxRecDepth 10000
set_option maxHeartbeats 4000000
theorem ammx_min (k k' : IntKind) (a b : Int) : ammx false [.int k a, .int k' b] = some (.int k (if b < a then b else a)) := by
 simp [ammx, amm]
theorem f_Few_loop0 (g : GramD) (hg : g.Ok) (n : Nat) : ∀ (d i m : Nat) (w : Int), g.rules.length = i + d → d < m → ∃ v,
  loopN (evalCode (lim G0.cfg) n B_l17_Few_0) m ⟨(J::.ptr 0 0 0 0::J::.int .i64 w :: .int .i64 i::J::J::J::J::J::J::J::J::J::J::J::J::J::J::J::J::J::J::J::J::J::J::J::J::J::J::J::J::J::J::J::J::J::J::J::J::J::J::J::J::J::J::J::J::J::J::J::J::J::J::J::J::J::J::J::J::J::J::J::J::J::J::J::J::J::J::J::J::J::J::J::J::J::J::J::J::J::J::J::J::J::J::J::J::[]), [.arr 0 5 true [eGram g]]⟩ = some (.exit 0, ⟨(J::.ptr 0 0 0 0::J::.int .i64 v::J::J::J::J::J::J::J::J::J::J::J::J::J::J::J::J::J::J::J::J::J::J::J::J::J::J::J::J::J::J::J::J::J::J::J::J::J::J::J::J::J::J::J::J::J::J::J::J::J::J::J::J::J::J::J::J::J::J::J::J::J::J::J::J::J::J::J::J::J::J::J::J::J::J::J::J::J::J::J::J::J::J::J::J::J::[]), [.arr 0 5 true [eGram g]]⟩) := by
 have hm := hg.rules
 rw [maxLen_eq] at hm
 intro d
 induction d with
 | zero =>
  intro i m w h1 h2
  obtain ⟨m, rfl⟩ : ∃ q, m = q + 1 := ⟨m - 1, by omega⟩
  have h3 : ¬ ((i : Int) < g.rules.length) := by omega
  exact ⟨w, by simp only [loop_e,EB_l17_Few_0,Zab,Zac,Zad,Zag,Zah,Zaj,Zak,Zal,Zas,Zav,Zay,Zbe,Zbh,Zbi,Zbj,Zbk,Zbl,Zbo,Zbq,Zby,Zcg,Zcv,Zcw,Zcx,Zdb,Zdc,Zdd,Q0,Z0,Q6,Q7,Z1,Zdh,Zdt,Zdx,Zdz,decide_false,Q4,Q1,Q2,if_true,Nat.reduceAdd,Nat.reduceLeDiff,eq_self,Z2,aload,acells,getArr,part,Z5,Q8,Q9,Z6,Q0,h3]⟩
 | succ d ih =>
  intro i m w h1 h2
  obtain ⟨m, rfl⟩ : ∃ q, m = q + 1 := ⟨m - 1, by omega⟩
  have h3 : i < g.rules.length := by omega
  have h3' : (i : Int) < g.rules.length := by omega
  have hw := w64s (n := i) (by omega)
  have ii := fun h => ix_map eRule h 5 false g.rules .i64 i h3 rfl
  by_cases q : (i : Int) < 70
  case neg => exact ⟨w, by simp only [loop_e,EB_l17_Few_0,Zab,Zac,Zad,Zag,Zah,Zaj,Zak,Zal,Zas,Zav,Zay,Zbb,Zbg,Zbi,Zbj,Zbk,Zbl,Zbo,Zbq,Zby,Zcg,Zcv,Zcw,Zcx,Zdb,Zdc,Zdd,Q0,Z0,Q6,Q7,Z1,Zdh,Zdt,Zdx,Zdz,decide_true,decide_false,Q4,Q1,Q2,if_true,Nat.reduceAdd,Nat.reduceLeDiff,eq_self,Z2,aload,acells,getArr,part,Z5,Q8,Q9,Z6,Q0,h3',q]⟩
  case pos =>
   obtain ⟨v, e⟩ := ih (i + 1) m (IntKind.i64.wrap (IntKind.i64.wrap (w + (if (1000 : Int) < ((g.rules[i]).right.length : Int) then 1000 else ((g.rules[i]).right.length : Int))) + (if (1000 : Int) < ((g.rules[i]).fields.length : Int) then 1000 else ((g.rules[i]).fields.length : Int)))) (by omega) (by omega)
   exact ⟨v, by rw [← e]; simp only [loop_e,EB_l17_Few_0,Zaa,Zab,Zac,Zad,Zae,Zag,Zaj,Zak,Zan,Zar,Zau,Zay,Zbb,Zbg,Zbi,Zbj,Zbk,Zbl,Zbo,Zbq,Zby,Zcb,Zcg,Zcl,Zcv,Zcw,Zcx,Zcz,Zda,Zdb,Zdc,Zdd,Q0,Z0,Q6,Q7,Z1,Zde,Zdh,Zdt,Zdx,Zdy,Zdz,Zep,Zeq,decide_true,Q4,Q1,Q2,if_true,Nat.reduceAdd,Nat.reduceLeDiff,eq_self,Z2,aload,acells,getArr,part,Z5,Q8,Q9,Z6,Q0,h3',q,ii,ammx_min,hw]⟩
theorem f_Few_loop1 (g : GramD) (hg : g.Ok) (n : Nat) : ∀ (d i m : Nat) (w : Int), g.levels.length = i + d → d < m → ∃ v,
  loopN (evalCode (lim G0.cfg) n B_l17_Few_1) m ⟨(J::.ptr 0 0 0 0::J::.int .i64 w::J::.int .i64 i::J::J::J::J::J::J::J::J::J::J::J::J::J::J::J::J::J::J::J::J::J::J::J::J::J::J::J::J::J::J::J::J::J::J::J::J::J::J::J::J::J::J::J::J::J::J::J::J::J::J::J::J::J::J::J::J::J::J::J::J::J::J::J::J::J::J::J::J::J::J::J::J::J::J::J::J::J::J::J::J::J::J::J::[]), [.arr 0 5 true [eGram g]]⟩ = some (.exit 2, ⟨(J::J::J::.int .i64 v::J::J::J::J::J::J::J::J::J::J::J::J::J::J::J::J::J::J::J::J::J::J::J::J::J::J::J::J::J::J::J::J::J::J::J::J::J::J::J::J::J::J::J::J::J::J::J::J::J::J::J::J::J::J::J::J::J::J::J::J::J::J::J::J::J::J::J::J::J::J::J::J::J::J::J::J::J::J::J::J::J::J::J::J::J::[]), [.arr 0 5 true [eGram g]]⟩) := by
 have hm := hg.levels
 rw [maxLen_eq] at hm
 intro d
 induction d with
 | zero =>
  intro i m w h1 h2
  obtain ⟨m, rfl⟩ : ∃ q, m = q + 1 := ⟨m - 1, by omega⟩
  have h3 : ¬ ((i : Int) < g.levels.length) := by omega
  exact ⟨w, by simp only [loop_e,EB_l17_Few_1,Zab,Zac,Zad,Zag,Zah,Zaj,Zak,Zal,Zas,Zav,Zay,Zbi,Zbk,Zbo,Zbq,Zby,Zcg,Zcv,Zcx,Zdb,Zdc,Zdd,Q0,Z0,Q6,Q7,Z1,Zdh,Zdt,Zdx,Zdz,decide_false,Q4,Q1,Q2,if_true,Nat.reduceAdd,Nat.reduceLeDiff,eq_self,Z2,aload,acells,getArr,part,Z5,Q8,Q9,Z8,Q0,h3]⟩
 | succ d ih =>
  intro i m w h1 h2
  obtain ⟨m, rfl⟩ : ∃ q, m = q + 1 := ⟨m - 1, by omega⟩
  have h3 : i < g.levels.length := by omega
  have h3' : (i : Int) < g.levels.length := by omega
  have hw := w64s (n := i) (by omega)
  have ii := fun h => ix_map eLevel h 2 false g.levels .i64 i h3 rfl
  obtain ⟨v, e⟩ := ih (i + 1) m (IntKind.i64.wrap (w + (if (1000 : Int) < ((g.levels[i]).terms.length : Int) then 1000 else ((g.levels[i]).terms.length : Int)))) (by omega) (by omega)
  exact ⟨v, by rw [← e]; simp only [loop_e,EB_l17_Few_1,Zaa,Zab,Zac,Zad,Zae,Zag,Zaj,Zak,Zan,Zar,Zau,Zay,Zbi,Zbk,Zbo,Zbq,Zby,Zcb,Zcg,Zcl,Zcv,Zcw,Zcx,Zcz,Zda,Zdb,Zdc,Zdd,Q0,Z0,Q6,Q7,Z1,Zde,Zdh,Zdt,Zdx,Zdy,Zdz,Zep,decide_true,Q4,Q1,Q2,if_true,Nat.reduceAdd,Nat.reduceLeDiff,eq_self,Z2,aload,acells,getArr,part,Z5,Q8,Q9,Z8,Q0,h3',ii,ammx_min,hw]⟩
theorem f_Few (g : GramD) (hg : g.Ok) : ∃ b, ∀ H, lim G0.cfg (.func 9) [.agg (eGram g)] H = some (.bool b, H) := by
 have key : ∃ (b : Bool) (h' : AHeap), runFn (lim G0.cfg) (g.rules.length + g.levels.length + 1) A_l17_Few [.agg (eGram g)] [] = some (.bool b, h') := by
  obtain ⟨N, hN⟩ : ∃ N, N = g.rules.length + g.levels.length + 1 := ⟨_, rfl⟩
  rw [← hN]
  obtain ⟨v, e⟩ := f_Few_loop0 g hg N g.rules.length 0 N 0 (by omega) (by omega)
  obtain ⟨v2, e2⟩ := f_Few_loop1 g hg N g.levels.length 0 N v (by omega) (by omega)
  rw [z0] at e e2
  rw [R_l17_Few]
  have fin0 : ∀ (X : Option (AV × AHeap)), X = some (.bool (decide (v2 < 400)), [.arr 0 5 true [eGram g]]) → ∃ (b : Bool) (h' : AHeap), X = some (.bool b, h') := fun X h => ⟨_, _, h⟩
  have fin1 : ∀ (X : Option (AV × AHeap)), X = some (.bool false, [.arr 0 5 true [eGram g]]) → ∃ (b : Bool) (h' : AHeap), X = some (.bool b, h') := fun X h => ⟨_, _, h⟩
  by_cases a1 : (60 : Int) < g.rules.length
  case pos =>
   by_cases a2 : (g.rules.length : Int) ≤ 1024
   case pos => exact fin1 _ (by simp only [Zab,Zac,Zad,Zai,Zaj,Zak,Zam,Zar,Zay,Zaz,Zbb,Zbd,Zbf,Zbg,Zbi,Zbj,Zbk,Zbl,Zbn,Zbo,Zbq,Zby,Zcg,Zcs,Zcu,Zcv,Zcw,Zcx,Q0,Z0,Q6,Q7,Z1,Z7,Zdi,Zdj,Zdt,Zdx,Zdz,Zeb,decide_true,Q4,Q1,Q2,if_true,Nat.reduceAdd,Nat.reduceSub,Nat.reduceLeDiff,eq_self,Z2,Q1,Q2,Z3,Z4,Q3,Q5,aload,acells,getArr,part,Z5,Q8,Q9,Z6,Q3,Q5,Q0,a1,a2,resAll,resVals,resVal])
   case neg =>
   by_cases b1 : (60 : Int) < g.nonterms.length
   case pos =>
    by_cases b2 : (g.nonterms.length : Int) ≤ 512
    case pos => exact fin1 _ (by simp only [Zab,Zac,Zad,Zai,Zaj,Zak,Zam,Zar,Zay,Zaz,Zbb,Zbc,Zbd,Zbg,Zbh,Zbi,Zbj,Zbk,Zbl,Zbn,Zbo,Zbq,Zby,Zcg,Zcs,Zcu,Zcv,Zcw,Zcx,Q0,Z0,Q6,Q7,Z1,Z7,Zdi,Zdj,Zdt,Zdx,Zdz,Zeb,Zeq,decide_true,decide_false,Q4,Q1,Q2,if_true,Nat.reduceAdd,Nat.reduceSub,Nat.reduceLeDiff,eq_self,Z2,Q1,Q2,Z3,Z4,Q3,Q5,aload,acells,getArr,part,Z5,Q8,Q9,Z6,Q3,Q5,Q0,a1,a2,b1,b2,resAll,resVals,resVal])
    case neg =>
    by_cases c1 : (300 : Int) < g.terms.length
    case pos => exact fin1 _ (by simp only [Zab,Zac,Zad,Zai,Zaj,Zak,Zam,Zar,Zay,Zaz,Zbb,Zbc,Zbd,Zbg,Zbh,Zbi,Zbj,Zbk,Zbl,Zbn,Zbo,Zbq,Zby,Zcg,Zcs,Zcu,Zcv,Zcw,Zcx,Q0,Z0,Q6,Q7,Z1,Z7,Zdi,Zdj,Zdt,Zdx,Zdz,Zeb,Zeq,decide_true,decide_false,Q4,Q1,Q2,if_true,Nat.reduceAdd,Nat.reduceSub,Nat.reduceLeDiff,eq_self,Z2,Q1,Q2,Z3,Z4,Q3,Q5,aload,acells,getArr,part,Z5,Q8,Q9,Z6,Q3,Q5,Q0,a1,a2,b1,b2,c1,resAll,resVals,resVal])
    case neg =>
    by_cases d1 : (40 : Int) < g.levels.length
    case pos => exact fin1 _ (by simp only [Zab,Zac,Zad,Zai,Zaj,Zak,Zam,Zar,Zay,Zaz,Zbb,Zbc,Zbg,Zbh,Zbi,Zbj,Zbk,Zbl,Zbn,Zbo,Zbq,Zby,Zcg,Zcs,Zcu,Zcv,Zcw,Zcx,Q0,Z0,Q6,Q7,Z1,Z7,Zdi,Zdj,Zdt,Zdx,Zdz,Zeb,Zeq,decide_true,decide_false,Q4,Q1,Q2,if_true,Nat.reduceAdd,Nat.reduceSub,Nat.reduceLeDiff,eq_self,Z2,Q1,Q2,Z3,Z4,Q3,Q5,aload,acells,getArr,part,Z5,Q8,Q9,Z6,Z8,Q3,Q5,Q0,a1,a2,b1,b2,c1,d1,resAll,resVals,resVal])
    case neg => exact fin0 _ (by simp only [Zaa,Zab,Zac,Zad,Zae,Zaf,Zag,Zai,Zaj,Zak,Zap,Zas,Zat,Zay,Zaz,Zbb,Zbc,Zbg,Zbh,Zbi,Zbj,Zbk,Zbl,Zbn,Zbo,Zbq,Zby,Zcg,Zcs,Zcu,Zcv,Zcw,Zcx,Zdb,Zdc,Zdd,Q0,Z0,Q6,Q7,Z1,Z7,Zdh,Zdi,Zdj,Zdt,Zdx,Zdz,Zeb,Zeq,decide_true,decide_false,Q4,Q1,Q2,if_true,Nat.reduceAdd,Nat.reduceSub,Nat.reduceLeDiff,eq_self,Z2,Q1,Q2,Z3,Z4,Q3,Q5,aload,acells,getArr,part,Z5,Q8,Q9,Z6,Z8,Q3,Q5,Q0,a1,a2,b1,b2,c1,d1,e,e2,resAll,resVals,resVal])
   case neg =>
    by_cases c1 : (300 : Int) < g.terms.length
    case pos => exact fin1 _ (by simp only [Zab,Zac,Zad,Zai,Zaj,Zak,Zam,Zar,Zay,Zaz,Zbb,Zbc,Zbd,Zbe,Zbg,Zbh,Zbi,Zbj,Zbk,Zbl,Zbn,Zbo,Zbq,Zby,Zcg,Zcs,Zcu,Zcv,Zcw,Zcx,Q0,Z0,Q6,Q7,Z1,Z7,Zdi,Zdj,Zdt,Zdx,Zdz,Zeb,Zeq,decide_true,decide_false,Q4,Q1,Q2,if_true,Nat.reduceAdd,Nat.reduceSub,Nat.reduceLeDiff,eq_self,Z2,Q1,Q2,Z3,Z4,Q3,Q5,aload,acells,getArr,part,Z5,Q8,Q9,Z6,Q3,Q5,Q0,a1,a2,b1,c1,resAll,resVals,resVal])
    case neg =>
    by_cases d1 : (40 : Int) < g.levels.length
    case pos => exact fin1 _ (by simp only [Zab,Zac,Zad,Zai,Zaj,Zak,Zam,Zar,Zay,Zaz,Zbb,Zbc,Zbe,Zbg,Zbh,Zbi,Zbj,Zbk,Zbl,Zbn,Zbo,Zbq,Zby,Zcg,Zcs,Zcu,Zcv,Zcw,Zcx,Q0,Z0,Q6,Q7,Z1,Z7,Zdi,Zdj,Zdt,Zdx,Zdz,Zeb,Zeq,decide_true,decide_false,Q4,Q1,Q2,if_true,Nat.reduceAdd,Nat.reduceSub,Nat.reduceLeDiff,eq_self,Z2,Q1,Q2,Z3,Z4,Q3,Q5,aload,acells,getArr,part,Z5,Q8,Q9,Z6,Z8,Q3,Q5,Q0,a1,a2,b1,c1,d1,resAll,resVals,resVal])
    case neg => exact fin0 _ (by simp only [Zaa,Zab,Zac,Zad,Zae,Zaf,Zag,Zai,Zaj,Zak,Zap,Zas,Zat,Zay,Zaz,Zbb,Zbc,Zbe,Zbg,Zbh,Zbi,Zbj,Zbk,Zbl,Zbn,Zbo,Zbq,Zby,Zcg,Zcs,Zcu,Zcv,Zcw,Zcx,Zdb,Zdc,Zdd,Q0,Z0,Q6,Q7,Z1,Z7,Zdh,Zdi,Zdj,Zdt,Zdx,Zdz,Zeb,Zeq,decide_true,decide_false,Q4,Q1,Q2,if_true,Nat.reduceAdd,Nat.reduceSub,Nat.reduceLeDiff,eq_self,Z2,Q1,Q2,Z3,Z4,Q3,Q5,aload,acells,getArr,part,Z5,Q8,Q9,Z6,Z8,Q3,Q5,Q0,a1,a2,b1,c1,d1,e,e2,resAll,resVals,resVal])
  case neg =>
   by_cases b1 : (60 : Int) < g.nonterms.length
   case pos =>
    by_cases b2 : (g.nonterms.length : Int) ≤ 512
    case pos => exact fin1 _ (by simp only [Zab,Zac,Zad,Zai,Zaj,Zak,Zam,Zar,Zay,Zaz,Zbb,Zbc,Zbd,Zbe,Zbg,Zbh,Zbi,Zbj,Zbk,Zbl,Zbn,Zbo,Zbq,Zby,Zcg,Zcs,Zcu,Zcv,Zcw,Zcx,Q0,Z0,Q6,Q7,Z1,Z7,Zdi,Zdj,Zdt,Zdx,Zdz,Zeb,Zeq,decide_true,decide_false,Q4,Q1,Q2,if_true,Nat.reduceAdd,Nat.reduceSub,Nat.reduceLeDiff,eq_self,Z2,Q1,Q2,Z3,Z4,Q3,Q5,aload,acells,getArr,part,Z5,Q8,Q9,Z6,Q3,Q5,Q0,a1,b1,b2,resAll,resVals,resVal])
    case neg =>
    by_cases c1 : (300 : Int) < g.terms.length
    case pos => exact fin1 _ (by simp only [Zab,Zac,Zad,Zai,Zaj,Zak,Zam,Zar,Zay,Zaz,Zbb,Zbc,Zbd,Zbe,Zbg,Zbh,Zbi,Zbj,Zbk,Zbl,Zbn,Zbo,Zbq,Zby,Zcg,Zcs,Zcu,Zcv,Zcw,Zcx,Q0,Z0,Q6,Q7,Z1,Z7,Zdi,Zdj,Zdt,Zdx,Zdz,Zeb,Zeq,decide_true,decide_false,Q4,Q1,Q2,if_true,Nat.reduceAdd,Nat.reduceSub,Nat.reduceLeDiff,eq_self,Z2,Q1,Q2,Z3,Z4,Q3,Q5,aload,acells,getArr,part,Z5,Q8,Q9,Z6,Q3,Q5,Q0,a1,b1,b2,c1,resAll,resVals,resVal])
    case neg =>
    by_cases d1 : (40 : Int) < g.levels.length
    case pos => exact fin1 _ (by simp only [Zab,Zac,Zad,Zai,Zaj,Zak,Zam,Zar,Zay,Zaz,Zbb,Zbc,Zbe,Zbg,Zbh,Zbi,Zbj,Zbk,Zbl,Zbn,Zbo,Zbq,Zby,Zcg,Zcs,Zcu,Zcv,Zcw,Zcx,Q0,Z0,Q6,Q7,Z1,Z7,Zdi,Zdj,Zdt,Zdx,Zdz,Zeb,Zeq,decide_true,decide_false,Q4,Q1,Q2,if_true,Nat.reduceAdd,Nat.reduceSub,Nat.reduceLeDiff,eq_self,Z2,Q1,Q2,Z3,Z4,Q3,Q5,aload,acells,getArr,part,Z5,Q8,Q9,Z6,Z8,Q3,Q5,Q0,a1,b1,b2,c1,d1,resAll,resVals,resVal])
    case neg => exact fin0 _ (by simp only [Zaa,Zab,Zac,Zad,Zae,Zaf,Zag,Zai,Zaj,Zak,Zap,Zas,Zat,Zay,Zaz,Zbb,Zbc,Zbe,Zbg,Zbh,Zbi,Zbj,Zbk,Zbl,Zbn,Zbo,Zbq,Zby,Zcg,Zcs,Zcu,Zcv,Zcw,Zcx,Zdb,Zdc,Zdd,Q0,Z0,Q6,Q7,Z1,Z7,Zdh,Zdi,Zdj,Zdt,Zdx,Zdz,Zeb,Zeq,decide_true,decide_false,Q4,Q1,Q2,if_true,Nat.reduceAdd,Nat.reduceSub,Nat.reduceLeDiff,eq_self,Z2,Q1,Q2,Z3,Z4,Q3,Q5,aload,acells,getArr,part,Z5,Q8,Q9,Z6,Z8,Q3,Q5,Q0,a1,b1,b2,c1,d1,e,e2,resAll,resVals,resVal])
   case neg =>
    by_cases c1 : (300 : Int) < g.terms.length
    case pos => exact fin1 _ (by simp only [Zab,Zac,Zad,Zai,Zaj,Zak,Zam,Zar,Zay,Zaz,Zbc,Zbd,Zbe,Zbg,Zbh,Zbi,Zbj,Zbk,Zbl,Zbn,Zbo,Zbq,Zby,Zcg,Zcs,Zcu,Zcv,Zcw,Zcx,Q0,Z0,Q6,Q7,Z1,Z7,Zdj,Zdt,Zdx,Zdz,Zeb,Zeq,decide_true,decide_false,Q4,Q1,Q2,if_true,Nat.reduceAdd,Nat.reduceSub,Nat.reduceLeDiff,eq_self,Z2,Q1,Q2,Z3,Z4,Q3,Q5,aload,acells,getArr,part,Z5,Q8,Q9,Z6,Q3,Q5,Q0,a1,b1,c1,resAll,resVals,resVal])
    case neg =>
    by_cases d1 : (40 : Int) < g.levels.length
    case pos => exact fin1 _ (by simp only [Zab,Zac,Zad,Zai,Zaj,Zak,Zam,Zar,Zay,Zaz,Zbc,Zbe,Zbh,Zbi,Zbj,Zbk,Zbl,Zbn,Zbo,Zbq,Zby,Zcg,Zcs,Zcu,Zcv,Zcw,Zcx,Q0,Z0,Q6,Q7,Z1,Z7,Zdj,Zdt,Zdx,Zdz,Zeb,Zeq,decide_true,decide_false,Q4,Q1,Q2,if_true,Nat.reduceAdd,Nat.reduceSub,Nat.reduceLeDiff,eq_self,Z2,Q1,Q2,Z3,Z4,Q3,Q5,aload,acells,getArr,part,Z5,Q8,Q9,Z6,Z8,Q3,Q5,Q0,a1,b1,c1,d1,resAll,resVals,resVal])
    case neg => exact fin0 _ (by simp only [Zaa,Zab,Zac,Zad,Zae,Zaf,Zag,Zai,Zaj,Zak,Zap,Zas,Zat,Zay,Zaz,Zbc,Zbe,Zbh,Zbi,Zbj,Zbk,Zbl,Zbn,Zbo,Zbq,Zby,Zcg,Zcs,Zcu,Zcv,Zcw,Zcx,Zdb,Zdc,Zdd,Q0,Z0,Q6,Q7,Z1,Z7,Zdh,Zdj,Zdt,Zdx,Zdz,Zeb,Zeq,decide_false,Q4,Q1,Q2,if_true,Nat.reduceAdd,Nat.reduceSub,Nat.reduceLeDiff,eq_self,Z2,Q1,Q2,Z3,Z4,Q3,Q5,aload,acells,getArr,part,Z5,Q8,Q9,Z6,Z8,Q3,Q5,Q0,a1,b1,c1,d1,e,e2,resAll,resVals,resVal])
 obtain ⟨b, h', hr⟩ := key
 exact ⟨b, fun H => lim_flat rfl rfl P_l17_Few _ (fun h => fz_1 (fz_gram g h)) ⟨h', hr⟩ (fun _ => rfl) H⟩
end Go.Proofs.Ytkimloceaihplaa.Ai
