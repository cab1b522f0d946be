/- Tables, plain; the numbers of a table's cells. -/
import Derived.Test.YtkgndbhflehhhaamPlv
import Derived.Test.YtkgndbhflehhhaamPmv
namespace Go.Proofs.Ytkgndbhflehhhaa.Ai
open Go Go.Proofs
open AV renaming junk → J
open List renaming length_cons → Q0, length_nil → Q1, set_cons_zero → Q2, cons_append → Q3, getD_cons_zero → Q4, getD_cons_succ → Q5, nil_append → Q6, set_cons_succ → Q7, replicate_succ → Q8, replicate_zero → Q9, getElem?_cons_zero → Z2, drop_succ_cons → Z3, take_succ_cons → Z4, drop_zero → Z5, take_zero → Z7, all_cons → Z8, take_nil → Y0, all_nil → Y1, getElem_cons_zero → Y2
open Option.some renaming injEq → Z0
open Option renaming map_some → Z1, bind_some → Z6
open Bool renaming and_self → Z9
set_option linter.unusedVariables false
set_option linter.unusedSimpArgs false
set_option maxRecDepth 10000
set_option maxHeartbeats 4000000
def LiG {X : Type} (P : X → AV → Prop) (xs : List X) (v : AV) : Prop := (xs = [] ∧ v = .nilS) ∨ ∃ e cs, v = .vsl e cs ∧ cs.length = xs.length ∧ ∀ (j : Nat) (hj : j < xs.length), ∃ rv, cs[j]? = some [rv] ∧ P xs[j] rv
section
variable {X : Type} {P : X → AV → Prop} {xs : List X} {v : AV}
theorem LiG.len (hl : LiG P xs v) (h : AHeap) : alen h .slice v = some (.int .i64 xs.length) := by
 rcases hl with ⟨rfl, rfl⟩ | ⟨e, cs, rfl, h1, _⟩
 ·rfl
 ·simp [alen, h1]
theorem LiG.ix (hl : LiG P xs v) (j : Nat) (hj : j < xs.length) : ∃ rv, P xs[j] rv ∧ ∀ (h : AHeap) (k : IntKind), aindexAddr h 1 v (.int k j) = some (.vptr [rv] 0) := by
 rcases hl with ⟨rfl, rfl⟩ | ⟨e, cs, rfl, h1, h2⟩
 ·simp at hj
 ·obtain ⟨rv, h3, h4⟩ := h2 j hj
  exact ⟨rv, h4, fun h k => by simp [aindexAddr, h3]⟩
theorem LiG.fz (hl : LiG P xs v) (h : AHeap) (d : Nat) : freeze h (d + 1) v = some (v, true) := by
 rcases hl with ⟨rfl, rfl⟩ | ⟨e, cs, rfl, _⟩ <;> rfl
theorem LiG.cell (hl : LiG P xs v) : cellsOf v = [v] ∧ cellOk v = true := by
 rcases hl with ⟨rfl, rfl⟩ | ⟨e, cs, rfl, _⟩ <;> exact ⟨rfl, rfl⟩
end
theorem LiR.cell {xs : List (List Int)} {v : AV} (hl : LiR xs v) : cellsOf v = [v] ∧ cellOk v = true := by
 rcases hl with ⟨rfl, rfl⟩ | ⟨e, cs, rfl, _⟩ <;> exact ⟨rfl, rfl⟩
def eAct (a : Int × Int) : List AV := [.int .i64 a.1, .int .i64 a.2]
def LiA (l : List (Int × Int)) (v : AV) : Prop := (l = [] ∧ v = .nilS) ∨ ∃ e, v = .vsl e (l.map eAct)
theorem LiA.len {l : List (Int × Int)} {v : AV} (hl : LiA l v) (h : AHeap) : alen h .slice v = some (.int .i64 l.length) := by
 rcases hl with ⟨rfl, rfl⟩ | ⟨e, rfl⟩
 ·rfl
 ·simp [alen]
theorem LiA.ix {l : List (Int × Int)} {v : AV} (hl : LiA l v) (h : AHeap) (k : IntKind) (j : Nat) (hj : j < l.length) : aindexAddr h 2 v (.int k j) = some (.vptr (eAct l[j]) 0) := by
 rcases hl with ⟨rfl, rfl⟩ | ⟨e, rfl⟩
 ·simp at hj
 ·simp [aindexAddr, hj, eAct]
theorem LiA.fz {l : List (Int × Int)} {v : AV} (hl : LiA l v) (h : AHeap) (d : Nat) : freeze h (d + 1) v = some (v, true) := by
 rcases hl with ⟨rfl, rfl⟩ | ⟨e, rfl⟩ <;> rfl
theorem LiA.cell {l : List (Int × Int)} {v : AV} (hl : LiA l v) : cellsOf v = [v] ∧ cellOk v = true := by
 rcases hl with ⟨rfl, rfl⟩ | ⟨e, rfl⟩ <;> exact ⟨rfl, rfl⟩
structure TabD where
 acts : List (List (List (Int × Int)))
 gotos : List (List Int)
def numD (n : Int) : List (Int × Int) → Int
 | [] => 0
 | [(k, m)] => if m < 0 then -1 else if k = 1 ∧ m < n then 4 * m + 1 else if k = 2 ∧ m < 1024 then 4 * m + 2 else if k = 3 ∧ m = 0 then 3 else -1
 | _ => -1
def gtoD (n x : Int) : Int := if x < -1 ∨ n ≤ x then -1 else x + 1
def nonNeg (l : List Int) : Bool := l.all fun x => decide (0 ≤ x)
theorem w4 {m : Int} (h1 : 0 ≤ m) (h2 : m < 5000) (c : Int) (hc : 0 ≤ c) (hc2 : c ≤ 3) : IntKind.i64.wrap (4 * m) = 4 * m ∧ IntKind.i64.wrap (4 * m + c) = 4 * m + c := ⟨w64 (by omega) (by omega), w64 (by omega) (by omega)⟩
theorem f_number {l : List (Int × Int)} {v : AV} (hl : LiA l v) (n : Int) (hn : 0 ≤ n ∧ n ≤ 4096) (H : AHeap) : lim G0.cfg (.func 51) [v, .int .i64 n] H = some (.int .i64 (numD n l), H) := by
 refine lim_flat rfl rfl P_pack_number 1 (fun h => fz_2 (hl.fz h 999) rfl) ?_ (fun _ => rfl) H
 have la := hl.len
 have l2 : ∀ (h : AHeap) (a b : AV), aload h 2 true (.vptr [a, b] 0) = some (.agg [a, b]) := fun _ _ _ => rfl
 match l, hl with
 | [], hl =>
  rw [R_pack_number]
  have la0 : ∀ h, alen h .slice v = some (.int .i64 0) := la
  have d0 : decide ((0 : Int) = 0) = true := rfl
  simp only [Zab,Zac,Zad,Zai,Zaj,Zak,Zam,Zar,Zay,Zbi,Zbk,Zbq,Zcg,Zcu,Zcv,Zcw,Zcx,Q2,Q7,Q4,Q5,Z1,Zdl,decide_true,Q0,Q1,Nat.reduceAdd,Nat.reduceSub,Int.reduceNeg,eq_self,true_and,Q0,Q1,Q8,Q9,Q3,Q6,la0,numD,resAll,resVals,resVal,Z0,Prod.mk.injEq,true_and,exists_eq']
 | a :: b :: r, hl =>
  have e1 : ((a :: b :: r).length : Int) = r.length + 2 := by simp; omega
  have e2 : decide ((r.length : Int) + 2 = 0) = false := decide_eq_false (by omega)
  have e3 : (1 : Int) < (r.length : Int) + 2 := by omega
  have x := fun h k => hl.ix h k 0 (by simp)
  rw [e1] at la
  rw [R_pack_number]
  simp only [Y2,eAct,Int.natCast_zero] at x
  simp only [Zaa,Zab,Zac,Zad,Zae,Zai,Zaj,Zak,Zan,Zar,Zas,Zay,Zba,Zbd,Zbg,Zbi,Zbj,Zbk,Zbl,Zbm,Zbo,Zbp,Zbq,Zcb,Zcg,Zcu,Zcv,Zcw,Zcx,Zcy,Q2,Q7,Q4,Q5,Z6,Z1,Zdj,Zdl,Zea,Zeb,decide_true,Z2,Q0,Q1,if_true,Nat.reduceAdd,Nat.reduceSub,Nat.reduceLeDiff,Int.reduceNeg,eq_self,and_self,true_and,Q0,Q1,Q8,Q9,Q3,Q6,aload,acells,getArr,part,astore,putCells,Z8,Y1,cellOk,Z9,Z5,Z3,Z4,Z7,Y0,Q3,Q6,Q2,la,e2,e3,x,numD,resAll,resVals,resVal,Z0,Prod.mk.injEq,true_and,exists_eq']
 | [(k, m)], hl =>
  have x := fun h k => hl.ix h k 0 (by simp)
  simp only [Y2,eAct,Int.natCast_zero] at x
  replace la : ∀ h, alen h .slice v = some (.int .i64 1) := la
  have d0 : decide ((1 : Int) = 0) = false := rfl
  have d9 : ¬ ((1 : Int) < 1) := by omega
  rw [R_pack_number]
  by_cases c0 : m < 0
  ·simp only [Zaa,Zab,Zac,Zad,Zae,Zai,Zaj,Zak,Zan,Zar,Zas,Zay,Zba,Zbc,Zbh,Zbi,Zbj,Zbk,Zbl,Zbm,Zbo,Zbp,Zbq,Zby,Zcb,Zcg,Zcu,Zcv,Zcw,Zcx,Zcy,Q2,Q7,Q4,Q5,Z6,Z1,Zdh,Zdj,Zdl,Zdx,Zdz,Zea,Zeb,decide_true,decide_false,Z2,Q0,Q1,if_true,Nat.reduceAdd,Nat.reduceSub,Nat.reduceLeDiff,Int.reduceNeg,Int.reduceEq,eq_self,and_self,true_and,Q0,Q1,Q8,Q9,Q3,Q6,aload,acells,getArr,part,astore,putCells,Z8,Y1,cellOk,Z9,Z5,Z3,Z4,Z7,Y0,Q3,Q6,Q2,la,d9,x,numD,c0,if_true,resAll,resVals,resVal,Z0,Prod.mk.injEq,true_and,exists_eq']
  by_cases c1 : k = 1
  ·have d1 : decide (k = 1) = true := decide_eq_true c1
   have d2 : decide (k = 2) = false := decide_eq_false (by omega)
   have d3 : decide (k = 3) = false := decide_eq_false (by omega)
   by_cases c2 : m < n
   ·obtain ⟨w1, w2⟩ := w4 (m := m) (by omega) (by omega) 1 (by omega) (by omega)
    have r : numD n [(k, m)] = 4 * m + 1 := by rw [numD, if_neg c0, if_pos ⟨c1, c2⟩]
    rw [r]
    simp only [Zaa,Zab,Zac,Zad,Zae,Zai,Zaj,Zak,Zam,Zao,Zar,Zas,Zay,Zba,Zbb,Zbc,Zbg,Zbh,Zbi,Zbj,Zbk,Zbl,Zbm,Zbo,Zbp,Zbq,Zby,Zcb,Zcg,Zcu,Zcv,Zcw,Zcx,Zcy,Q2,Q7,Q4,Q5,Z6,Z1,Zde,Zdg,Zdh,Zdj,Zdl,Zdx,Zdz,Zea,Zeb,decide_true,decide_false,Z2,Q0,Q1,if_true,Nat.reduceAdd,Nat.reduceSub,Nat.reduceLeDiff,Int.reduceNeg,Int.reduceEq,eq_self,and_self,true_and,Q0,Q1,Q8,Q9,Q3,Q6,aload,acells,getArr,part,astore,putCells,Z8,Y1,cellOk,Z9,Z5,Z3,Z4,Z7,Y0,Q3,Q6,Q2,la,d9,x,c0,d1,c2,w1,w2,resAll,resVals,resVal,Z0,Prod.mk.injEq,true_and,exists_eq']
   ·have r : numD n [(k, m)] = -1 := by rw [numD, if_neg c0, if_neg (fun h => c2 h.2), if_neg (by omega), if_neg (by omega)]
    rw [r]
    simp only [Zaa,Zab,Zac,Zad,Zae,Zai,Zaj,Zak,Zan,Zas,Zay,Zba,Zbb,Zbc,Zbe,Zbg,Zbh,Zbi,Zbj,Zbk,Zbl,Zbm,Zbo,Zbp,Zbq,Zby,Zcb,Zcg,Zcu,Zcv,Zcw,Zcx,Zcy,Q2,Q7,Q4,Q5,Z6,Z1,Zdh,Zdj,Zdl,Zdx,Zdz,Zea,Zeb,decide_false,Z2,Q0,Q1,if_true,Nat.reduceAdd,Nat.reduceSub,Nat.reduceLeDiff,Int.reduceNeg,Int.reduceEq,eq_self,and_self,true_and,Q0,Q1,Q8,Q9,Q3,Q6,aload,acells,getArr,part,astore,putCells,Z8,Y1,cellOk,Z9,Z5,Z3,Z4,Z7,Y0,Q3,Q6,Q2,la,d9,x,c0,d1,d2,d3,c2,resAll,resVals,resVal,Z0,Prod.mk.injEq,true_and,exists_eq']
  have d1 : decide (k = 1) = false := decide_eq_false c1
  by_cases c3 : k = 2
  ·have d2 : decide (k = 2) = true := decide_eq_true c3
   have d3 : decide (k = 3) = false := decide_eq_false (by omega)
   by_cases c2 : m < 1024
   ·obtain ⟨w1, w2⟩ := w4 (m := m) (by omega) (by omega) 2 (by omega) (by omega)
    have r : numD n [(k, m)] = 4 * m + 2 := by rw [numD, if_neg c0, if_neg (fun h => c1 h.1), if_pos ⟨c3, c2⟩]
    rw [r]
    simp only [Zaa,Zab,Zac,Zad,Zae,Zai,Zaj,Zak,Zam,Zao,Zar,Zas,Zay,Zba,Zbb,Zbc,Zbe,Zbg,Zbh,Zbi,Zbj,Zbk,Zbl,Zbm,Zbo,Zbp,Zbq,Zby,Zcb,Zcg,Zcu,Zcv,Zcw,Zcx,Zcy,Q2,Q7,Q4,Q5,Z6,Z1,Zde,Zdg,Zdh,Zdj,Zdl,Zdx,Zdz,Zea,Zeb,decide_true,decide_false,Z2,Q0,Q1,if_true,Nat.reduceAdd,Nat.reduceSub,Nat.reduceLeDiff,Int.reduceNeg,Int.reduceEq,eq_self,and_self,true_and,Q0,Q1,Q8,Q9,Q3,Q6,aload,acells,getArr,part,astore,putCells,Z8,Y1,cellOk,Z9,Z5,Z3,Z4,Z7,Y0,Q3,Q6,Q2,la,d9,x,c0,d1,d2,c2,w1,w2,resAll,resVals,resVal,Z0,Prod.mk.injEq,true_and,exists_eq']
   ·have r : numD n [(k, m)] = -1 := by rw [numD, if_neg c0, if_neg (fun h => c1 h.1), if_neg (fun h => c2 h.2), if_neg (by omega)]
    rw [r]
    simp only [Zaa,Zab,Zac,Zad,Zae,Zai,Zaj,Zak,Zan,Zas,Zay,Zba,Zbb,Zbc,Zbe,Zbg,Zbh,Zbi,Zbj,Zbk,Zbl,Zbm,Zbo,Zbp,Zbq,Zby,Zcb,Zcg,Zcu,Zcv,Zcw,Zcx,Zcy,Q2,Q7,Q4,Q5,Z6,Z1,Zdh,Zdj,Zdl,Zdx,Zdz,Zea,Zeb,decide_false,Z2,Q0,Q1,if_true,Nat.reduceAdd,Nat.reduceSub,Nat.reduceLeDiff,Int.reduceNeg,Int.reduceEq,eq_self,and_self,true_and,Q0,Q1,Q8,Q9,Q3,Q6,aload,acells,getArr,part,astore,putCells,Z8,Y1,cellOk,Z9,Z5,Z3,Z4,Z7,Y0,Q3,Q6,Q2,la,d9,x,c0,d1,d2,d3,c2,resAll,resVals,resVal,Z0,Prod.mk.injEq,true_and,exists_eq']
  have d2 : decide (k = 2) = false := decide_eq_false c3
  by_cases c4 : k = 3
  ·have d3 : decide (k = 3) = true := decide_eq_true c4
   by_cases c2 : m = 0
   ·have d4 : decide (m = 0) = true := decide_eq_true c2
    have r : numD n [(k, m)] = 3 := by rw [numD, if_neg c0, if_neg (fun h => c1 h.1), if_neg (fun h => c3 h.1), if_pos ⟨c4, c2⟩]
    rw [r]
    simp only [Zaa,Zab,Zac,Zad,Zae,Zai,Zaj,Zak,Zam,Zao,Zar,Zas,Zay,Zba,Zbb,Zbc,Zbe,Zbg,Zbh,Zbi,Zbj,Zbk,Zbl,Zbm,Zbo,Zbp,Zbq,Zby,Zcb,Zcg,Zcu,Zcv,Zcw,Zcx,Zcy,Q2,Q7,Q4,Q5,Z6,Z1,Zdh,Zdj,Zdl,Zdx,Zdz,Zea,Zeb,decide_false,Z2,Q0,Q1,if_true,Nat.reduceAdd,Nat.reduceSub,Nat.reduceLeDiff,Int.reduceNeg,Int.reduceEq,eq_self,and_self,true_and,Q0,Q1,Q8,Q9,Q3,Q6,aload,acells,getArr,part,astore,putCells,Z8,Y1,cellOk,Z9,Z5,Z3,Z4,Z7,Y0,Q3,Q6,Q2,la,d9,x,c0,d1,d2,d3,d4,resAll,resVals,resVal,Z0,Prod.mk.injEq,true_and,exists_eq']
   ·have d4 : decide (m = 0) = false := decide_eq_false c2
    have r : numD n [(k, m)] = -1 := by rw [numD, if_neg c0, if_neg (fun h => c1 h.1), if_neg (fun h => c3 h.1), if_neg (fun h => c2 h.2)]
    rw [r]
    simp only [Zaa,Zab,Zac,Zad,Zae,Zai,Zaj,Zak,Zan,Zas,Zay,Zba,Zbb,Zbc,Zbe,Zbg,Zbh,Zbi,Zbj,Zbk,Zbl,Zbm,Zbo,Zbp,Zbq,Zby,Zcb,Zcg,Zcu,Zcv,Zcw,Zcx,Zcy,Q2,Q7,Q4,Q5,Z6,Z1,Zdh,Zdj,Zdl,Zdx,Zdz,Zea,Zeb,decide_false,Z2,Q0,Q1,if_true,Nat.reduceAdd,Nat.reduceSub,Nat.reduceLeDiff,Int.reduceNeg,Int.reduceEq,eq_self,and_self,true_and,Q0,Q1,Q8,Q9,Q3,Q6,aload,acells,getArr,part,astore,putCells,Z8,Y1,cellOk,Z9,Z5,Z3,Z4,Z7,Y0,Q3,Q6,Q2,la,d9,x,c0,d1,d2,d3,d4,resAll,resVals,resVal,Z0,Prod.mk.injEq,true_and,exists_eq']
  have d3 : decide (k = 3) = false := decide_eq_false c4
  have r : numD n [(k, m)] = -1 := by rw [numD, if_neg c0, if_neg (fun h => c1 h.1), if_neg (fun h => c3 h.1), if_neg (fun h => c4 h.1)]
  rw [r]
  simp only [Zaa,Zab,Zac,Zad,Zae,Zai,Zaj,Zak,Zan,Zas,Zay,Zba,Zbc,Zbe,Zbh,Zbi,Zbj,Zbk,Zbl,Zbm,Zbo,Zbp,Zbq,Zby,Zcb,Zcg,Zcu,Zcv,Zcw,Zcx,Zcy,Q2,Q7,Q4,Q5,Z6,Z1,Zdh,Zdj,Zdl,Zdx,Zdz,Zea,Zeb,decide_false,Z2,Q0,Q1,if_true,Nat.reduceAdd,Nat.reduceSub,Nat.reduceLeDiff,Int.reduceNeg,Int.reduceEq,eq_self,and_self,true_and,Q0,Q1,Q8,Q9,Q3,Q6,aload,acells,getArr,part,astore,putCells,Z8,Y1,cellOk,Z9,Z5,Z3,Z4,Z7,Y0,Q3,Q6,Q2,la,d9,x,c0,d1,d2,d3,resAll,resVals,resVal,Z0,Prod.mk.injEq,true_and,exists_eq']
theorem r_number {l : List (Int × Int)} {v : AV} (hl : LiA l v) (n : Int) (hn : 0 ≤ n ∧ n ≤ 4096) (H : AHeap) : lim G0.cfg (.func 54) [v, .int .i64 n] H = some (.int .i64 (numD n l), H) := by
 refine lim_flat rfl rfl P_r32_number 1 (fun h => fz_2 (hl.fz h 999) rfl) ?_ (fun _ => rfl) H
 have la := hl.len
 have l0 : ∀ (h : AHeap) (a b : AV), aload h 1 false (.vptr [a, b] 0) = some a := fun _ _ _ => rfl
 have l1 : ∀ (h : AHeap) (a b : AV), aload h 1 false (.vptr [a, b] 1) = some b := fun _ _ _ => rfl
 match l, hl with
 | [], hl =>
  rw [R_r32_number]
  have la0 : ∀ h, alen h .slice v = some (.int .i64 0) := la
  have d0 : decide ((0 : Int) = 0) = true := rfl
  simp only [Zab,Zac,Zad,Zai,Zaj,Zak,Zam,Zar,Zay,Zbi,Zbk,Zbq,Zcg,Zcu,Zcv,Zcw,Zcx,Q2,Q7,Q4,Q5,Z1,Zdl,decide_true,Q0,Q1,Nat.reduceAdd,Nat.reduceSub,Int.reduceNeg,eq_self,true_and,Q0,Q1,Q8,Q9,Q3,Q6,la0,numD,resAll,resVals,resVal,Z0,Prod.mk.injEq,true_and,exists_eq']
 | a :: b :: r, hl =>
  have e1 : ((a :: b :: r).length : Int) = r.length + 2 := by simp; omega
  have e2 : decide ((r.length : Int) + 2 = 0) = false := decide_eq_false (by omega)
  have e3 : (1 : Int) < (r.length : Int) + 2 := by omega
  rw [e1] at la
  rw [R_r32_number]
  simp only [Zaa,Zab,Zac,Zad,Zai,Zaj,Zak,Zam,Zar,Zas,Zay,Zbi,Zbk,Zbq,Zcg,Zcu,Zcv,Zcw,Zcx,Q2,Q7,Q4,Q5,Z1,Zdj,Zdl,decide_true,Q0,Q1,Nat.reduceAdd,Nat.reduceSub,Int.reduceNeg,eq_self,true_and,Q0,Q1,Q8,Q9,Q3,Q6,la,e2,e3,numD,resAll,resVals,resVal,Z0,Prod.mk.injEq,true_and,exists_eq']
 | [(k, m)], hl =>
  have x := fun h k => hl.ix h k 0 (by simp)
  simp only [Y2,eAct,Int.natCast_zero] at x
  replace la : ∀ h, alen h .slice v = some (.int .i64 1) := la
  have d0 : decide ((1 : Int) = 0) = false := rfl
  have d9 : ¬ ((1 : Int) < 1) := by omega
  rw [R_r32_number]
  by_cases c0 : m < 0
  ·have c0' : ¬ (0 : Int) ≤ m := by omega
   have d4 : decide (m = 0) = false := decide_eq_false (by omega)
   have r : numD n [(k, m)] = -1 := by rw [numD, if_pos c0]
   rw [r]
   by_cases c1 : k = 1
   ·have d1 : decide (k = 1) = true := decide_eq_true c1
    simp only [Zaa,Zab,Zac,Zad,Zae,Zai,Zaj,Zak,Zan,Zar,Zas,Zay,Zbe,Zbh,Zbi,Zbj,Zbk,Zbl,Zbo,Zbq,Zby,Zcb,Zcg,Zcu,Zcv,Zcw,Zcx,Q2,Q7,Q4,Q5,Z1,Zdj,Zdk,Zdl,Zdy,decide_false,Q0,Q1,Nat.reduceAdd,Nat.reduceSub,Int.reduceNeg,Int.reduceEq,eq_self,true_and,Q0,Q1,Q8,Q9,Q3,Q6,la,d9,x,l0,l1,d1,c0',resAll,resVals,resVal,Z0,Prod.mk.injEq,true_and,exists_eq']
   have d1 : decide (k = 1) = false := decide_eq_false c1
   by_cases c3 : k = 2
   ·have d2 : decide (k = 2) = true := decide_eq_true c3
    simp only [Zaa,Zab,Zac,Zad,Zae,Zai,Zaj,Zak,Zan,Zar,Zas,Zay,Zbe,Zbh,Zbi,Zbj,Zbk,Zbl,Zbo,Zbq,Zby,Zcb,Zcg,Zcu,Zcv,Zcw,Zcx,Q2,Q7,Q4,Q5,Z1,Zdj,Zdk,Zdl,Zdy,decide_false,Q0,Q1,Nat.reduceAdd,Nat.reduceSub,Int.reduceNeg,Int.reduceEq,eq_self,true_and,Q0,Q1,Q8,Q9,Q3,Q6,la,d9,x,l0,l1,d1,d2,c0',resAll,resVals,resVal,Z0,Prod.mk.injEq,true_and,exists_eq']
   have d2 : decide (k = 2) = false := decide_eq_false c3
   by_cases c4 : k = 3
   ·have d3 : decide (k = 3) = true := decide_eq_true c4
    simp only [Zaa,Zab,Zac,Zad,Zae,Zai,Zaj,Zak,Zan,Zar,Zas,Zay,Zbi,Zbk,Zbo,Zbq,Zby,Zcb,Zcg,Zcu,Zcv,Zcw,Zcx,Q2,Q7,Q4,Q5,Z1,Zdj,Zdl,Zdy,decide_false,Q0,Q1,Nat.reduceAdd,Nat.reduceSub,Int.reduceNeg,Int.reduceEq,eq_self,true_and,Q0,Q1,Q8,Q9,Q3,Q6,la,d9,x,l0,l1,d1,d2,d3,d4,resAll,resVals,resVal,Z0,Prod.mk.injEq,true_and,exists_eq']
   have d3 : decide (k = 3) = false := decide_eq_false c4
   simp only [Zaa,Zab,Zac,Zad,Zae,Zai,Zaj,Zak,Zan,Zas,Zay,Zbi,Zbk,Zbo,Zbq,Zby,Zcb,Zcg,Zcu,Zcv,Zcw,Zcx,Q2,Q7,Q4,Q5,Z1,Zdj,Zdl,Zdy,decide_false,Q0,Q1,Nat.reduceAdd,Nat.reduceSub,Int.reduceNeg,Int.reduceEq,eq_self,true_and,Q0,Q1,Q8,Q9,Q3,Q6,la,d9,x,l0,l1,d1,d2,d3,resAll,resVals,resVal,Z0,Prod.mk.injEq,true_and,exists_eq']
  have c0' : (0 : Int) ≤ m := by omega
  by_cases c1 : k = 1
  ·have d1 : decide (k = 1) = true := decide_eq_true c1
   by_cases c2 : m < n
   ·obtain ⟨w1, w2⟩ := w4 (m := m) (by omega) (by omega) 1 (by omega) (by omega)
    have r : numD n [(k, m)] = 4 * m + 1 := by rw [numD, if_neg c0, if_pos ⟨c1, c2⟩]
    rw [r]
    simp only [Zaa,Zab,Zac,Zad,Zae,Zai,Zaj,Zak,Zam,Zao,Zar,Zas,Zay,Zbb,Zbg,Zbi,Zbj,Zbk,Zbl,Zbo,Zbq,Zby,Zcb,Zcg,Zcu,Zcv,Zcw,Zcx,Q2,Q7,Q4,Q5,Z1,Zde,Zdg,Zdh,Zdj,Zdk,Zdl,Zdy,decide_true,decide_false,Q0,Q1,Nat.reduceAdd,Nat.reduceSub,Int.reduceNeg,Int.reduceEq,eq_self,true_and,Q0,Q1,Q8,Q9,Q3,Q6,la,d9,x,l0,l1,c0',d1,c2,w1,w2,resAll,resVals,resVal,Z0,Prod.mk.injEq,true_and,exists_eq']
   ·have r : numD n [(k, m)] = -1 := by rw [numD, if_neg c0, if_neg (fun h => c2 h.2), if_neg (by omega), if_neg (by omega)]
    rw [r]
    simp only [Zaa,Zab,Zac,Zad,Zae,Zai,Zaj,Zak,Zan,Zar,Zas,Zay,Zbb,Zbg,Zbi,Zbj,Zbk,Zbl,Zbo,Zbq,Zby,Zcb,Zcg,Zcu,Zcv,Zcw,Zcx,Q2,Q7,Q4,Q5,Z1,Zdh,Zdj,Zdk,Zdl,Zdy,decide_true,decide_false,Q0,Q1,Nat.reduceAdd,Nat.reduceSub,Int.reduceNeg,Int.reduceEq,eq_self,true_and,Q0,Q1,Q8,Q9,Q3,Q6,la,d9,x,l0,l1,c0',d1,c2,resAll,resVals,resVal,Z0,Prod.mk.injEq,true_and,exists_eq']
  have d1 : decide (k = 1) = false := decide_eq_false c1
  by_cases c3 : k = 2
  ·have d2 : decide (k = 2) = true := decide_eq_true c3
   by_cases c2 : m < 1024
   ·obtain ⟨w1, w2⟩ := w4 (m := m) (by omega) (by omega) 2 (by omega) (by omega)
    have r : numD n [(k, m)] = 4 * m + 2 := by rw [numD, if_neg c0, if_neg (fun h => c1 h.1), if_pos ⟨c3, c2⟩]
    rw [r]
    simp only [Zaa,Zab,Zac,Zad,Zae,Zai,Zaj,Zak,Zam,Zao,Zar,Zas,Zay,Zbb,Zbg,Zbi,Zbj,Zbk,Zbl,Zbo,Zbq,Zby,Zcb,Zcg,Zcu,Zcv,Zcw,Zcx,Q2,Q7,Q4,Q5,Z1,Zde,Zdg,Zdh,Zdj,Zdk,Zdl,Zdy,decide_true,decide_false,Q0,Q1,Nat.reduceAdd,Nat.reduceSub,Int.reduceNeg,Int.reduceEq,eq_self,true_and,Q0,Q1,Q8,Q9,Q3,Q6,la,d9,x,l0,l1,c0',d1,d2,c2,w1,w2,resAll,resVals,resVal,Z0,Prod.mk.injEq,true_and,exists_eq']
   ·have r : numD n [(k, m)] = -1 := by rw [numD, if_neg c0, if_neg (fun h => c1 h.1), if_neg (fun h => c2 h.2), if_neg (by omega)]
    rw [r]
    simp only [Zaa,Zab,Zac,Zad,Zae,Zai,Zaj,Zak,Zan,Zar,Zas,Zay,Zbb,Zbg,Zbi,Zbj,Zbk,Zbl,Zbo,Zbq,Zby,Zcb,Zcg,Zcu,Zcv,Zcw,Zcx,Q2,Q7,Q4,Q5,Z1,Zdh,Zdj,Zdk,Zdl,Zdy,decide_true,decide_false,Q0,Q1,Nat.reduceAdd,Nat.reduceSub,Int.reduceNeg,Int.reduceEq,eq_self,true_and,Q0,Q1,Q8,Q9,Q3,Q6,la,d9,x,l0,l1,c0',d1,d2,c2,resAll,resVals,resVal,Z0,Prod.mk.injEq,true_and,exists_eq']
  have d2 : decide (k = 2) = false := decide_eq_false c3
  by_cases c4 : k = 3
  ·have d3 : decide (k = 3) = true := decide_eq_true c4
   by_cases c2 : m = 0
   ·have d4 : decide (m = 0) = true := decide_eq_true c2
    have r : numD n [(k, m)] = 3 := by rw [numD, if_neg c0, if_neg (fun h => c1 h.1), if_neg (fun h => c3 h.1), if_pos ⟨c4, c2⟩]
    rw [r]
    simp only [Zaa,Zab,Zac,Zad,Zae,Zai,Zaj,Zak,Zam,Zao,Zar,Zas,Zay,Zbi,Zbk,Zbo,Zbq,Zby,Zcb,Zcg,Zcu,Zcv,Zcw,Zcx,Q2,Q7,Q4,Q5,Z1,Zdj,Zdl,Zdy,decide_false,Q0,Q1,Nat.reduceAdd,Nat.reduceSub,Int.reduceNeg,Int.reduceEq,eq_self,true_and,Q0,Q1,Q8,Q9,Q3,Q6,la,d9,x,l0,l1,d1,d2,d3,d4,resAll,resVals,resVal,Z0,Prod.mk.injEq,true_and,exists_eq']
   ·have d4 : decide (m = 0) = false := decide_eq_false c2
    have r : numD n [(k, m)] = -1 := by rw [numD, if_neg c0, if_neg (fun h => c1 h.1), if_neg (fun h => c3 h.1), if_neg (fun h => c2 h.2)]
    rw [r]
    simp only [Zaa,Zab,Zac,Zad,Zae,Zai,Zaj,Zak,Zan,Zar,Zas,Zay,Zbi,Zbk,Zbo,Zbq,Zby,Zcb,Zcg,Zcu,Zcv,Zcw,Zcx,Q2,Q7,Q4,Q5,Z1,Zdj,Zdl,Zdy,decide_false,Q0,Q1,Nat.reduceAdd,Nat.reduceSub,Int.reduceNeg,Int.reduceEq,eq_self,true_and,Q0,Q1,Q8,Q9,Q3,Q6,la,d9,x,l0,l1,d1,d2,d3,d4,resAll,resVals,resVal,Z0,Prod.mk.injEq,true_and,exists_eq']
  have d3 : decide (k = 3) = false := decide_eq_false c4
  have r : numD n [(k, m)] = -1 := by rw [numD, if_neg c0, if_neg (fun h => c1 h.1), if_neg (fun h => c3 h.1), if_neg (fun h => c4 h.1)]
  rw [r]
  simp only [Zaa,Zab,Zac,Zad,Zae,Zai,Zaj,Zak,Zan,Zas,Zay,Zbi,Zbk,Zbo,Zbq,Zby,Zcb,Zcg,Zcu,Zcv,Zcw,Zcx,Q2,Q7,Q4,Q5,Z1,Zdj,Zdl,Zdy,decide_false,Q0,Q1,Nat.reduceAdd,Nat.reduceSub,Int.reduceNeg,Int.reduceEq,eq_self,true_and,Q0,Q1,Q8,Q9,Q3,Q6,la,d9,x,l0,l1,d1,d2,d3,resAll,resVals,resVal,Z0,Prod.mk.injEq,true_and,exists_eq']
theorem r_within (a b c : Int) (H : AHeap) : lim G0.cfg (.func 53) [.int .i64 a, .int .i64 b, .int .i64 c] H = some (.bool (decide (b ≤ a) && decide (a ≤ c)), H) := by
 refine lim_flat rfl rfl P_r32_within 1 (fun h => fz_3 rfl rfl rfl) ?_ (fun _ => rfl) H
 rw [R_r32_within]
 by_cases h1 : b ≤ a
 ·by_cases h2 : a ≤ c
  ·rw [decide_eq_true h1, decide_eq_true h2]
   simp only [Zab,Zac,Zai,Zaj,Zak,Zay,Zbb,Zbg,Zbi,Zbj,Zbk,Zbl,Zbq,Zcu,Zcv,Zcw,Zcx,Q2,Q7,Q4,Q5,Z1,Zdi,Zdk,decide_true,Q0,Q1,Nat.reduceAdd,Nat.reduceSub,eq_self,true_and,Q0,Q1,Q8,Q9,Q3,Q6,h1,h2,resAll,resVals,resVal,Z0,Prod.mk.injEq,true_and,Bool.and_true,exists_eq']
  ·rw [decide_eq_true h1, decide_eq_false h2]
   simp only [Zab,Zac,Zai,Zaj,Zak,Zay,Zbb,Zbg,Zbi,Zbj,Zbk,Zbl,Zbq,Zcu,Zcv,Zcw,Zcx,Q2,Q7,Q4,Q5,Z1,Zdi,Zdk,decide_true,decide_false,Q0,Q1,Nat.reduceAdd,Nat.reduceSub,eq_self,true_and,Q0,Q1,Q8,Q9,Q3,Q6,h1,h2,resAll,resVals,resVal,Z0,Prod.mk.injEq,true_and,Bool.and_false,exists_eq']
 ·rw [decide_eq_false h1]
  simp only [Zab,Zac,Zai,Zaj,Zak,Zay,Zbe,Zbh,Zbi,Zbj,Zbk,Zbl,Zbq,Zcu,Zcv,Zcw,Zcx,Q2,Q7,Q4,Q5,Z1,Zdk,decide_false,Q0,Q1,Nat.reduceAdd,Nat.reduceSub,eq_self,true_and,Q0,Q1,Q8,Q9,Q3,Q6,h1,Bool.false_and,resAll,resVals,resVal,Z0,Prod.mk.injEq,true_and,Bool.false_and,exists_eq']
def minD : List Int → Int
 | [] => 0
 | x :: l => l.foldl (fun a b => if b < a then b else a) x
theorem minD_neg : ∀ l : List Int, l ≠ [] → (minD l < 0 ↔ nonNeg l = false) := by
 have key : ∀ (l : List Int) (x : Int), l.foldl (fun a b => if b < a then b else a) x < 0 ↔ (x < 0 ∨ ∃ y ∈ l, y < 0) := by
  intro l
  induction l with
  | nil => intro x; simp
  | cons y l ih =>
   intro x
   rw [List.foldl_cons, ih]
   split
   ·constructor
    ·rintro (h | ⟨z, h1, h2⟩)
     ·exact .inr ⟨y, by simp, h⟩
     ·exact .inr ⟨z, by simp [h1], h2⟩
    ·rintro (h | ⟨z, h1, h2⟩)
     ·left; omega
     ·rcases List.mem_cons.1 h1 with rfl | h1
      ·exact .inl h2
      ·exact .inr ⟨z, h1, h2⟩
   ·constructor
    ·rintro (h | ⟨z, h1, h2⟩)
     ·exact .inl h
     ·exact .inr ⟨z, by simp [h1], h2⟩
    ·rintro (h | ⟨z, h1, h2⟩)
     ·exact .inl h
     ·rcases List.mem_cons.1 h1 with rfl | h1
      ·left; omega
      ·exact .inr ⟨z, h1, h2⟩
 intro l hl
 cases l with
 | nil => exact absurd rfl hl
 | cons x l =>
  rw [minD, key]
  unfold nonNeg
  rw [Bool.eq_false_iff, Ne, List.all_eq_true]
  constructor
  ·rintro (h | ⟨z, h1, h2⟩) hh
   ·have := hh x (by simp); simp at this; omega
   ·have := hh z (by simp [h1]); simp at this; omega
  ·intro hh
   by_cases c : x < 0
   ·exact .inl c
   ·refine .inr ?_
    apply Classical.byContradiction
    intro hn
    apply hh
    intro z hz
    rcases List.mem_cons.1 hz with rfl | hz
    ·simp; omega
    ·have : ¬ z < 0 := fun h => hn ⟨z, hz, h⟩
     simp; omega
theorem run_Min {l : List Int} {v : AV} (hl : Li l v) (h0 : l ≠ []) (hm : l.length ≤ 1000000) : ∃ h', runFn (lim G0.cfg) (l.length + 1) A_slices_Min_sint_int [v] [] = some (.int .i64 (minD l), h') := by
 have la := hl.len
 have lv : ∀ (h : AHeap) (z : Int), aload h 1 false (.vptr (eI z) 0) = some (.int .i64 z) := fun _ _ => rfl
 have loop : ∀ (d i m : Nat) (s : Int), l.length = i + d → d < m → loopN (evalCode (lim G0.cfg) (l.length + 1) B_slices_Min_sint_int_0) m ⟨[v, J,J, .int .i64 s, .int .i64 i, J,J,J,J,J,J,J,J,J,J,J,J,J,J,J,J,J,J,J,J], []⟩ = some (.exit 0, ⟨[J,J,J, .int .i64 ((l.drop i).foldl (fun a b => if b < a then b else a) s), J,J,J,J,J,J,J,J,J,J,J,J,J,J,J,J,J,J,J,J,J], []⟩) := by
  intro d
  induction d with
  | zero =>
   intro i m s h1 h2
   obtain ⟨m, rfl⟩ : ∃ q, m = q + 1 := ⟨m - 1, by omega⟩
   have h3 : ¬ ((i : Int) < l.length) := by omega
   have q1 : l.drop i = [] := List.drop_eq_nil_iff.2 (by omega)
   rw [q1]
   simp only [loop_e,EB_slices_Min_sint_int_0,Zab,Zac,Zad,Zag,Zah,Zaj,Zak,Zal,Zas,Zav,Zay,Zbi,Zbk,Zbq,Zcg,Zcv,Zcx,Zdb,Zdc,Zdd,Q2,Q7,Q4,Q5,Zdh,decide_false,eq_self,la,h3,List.foldl_nil]
  | succ d ih =>
   intro i m s h1 h2
   obtain ⟨m, rfl⟩ : ∃ q, m = q + 1 := ⟨m - 1, by omega⟩
   have h3 : i < l.length := by omega
   have h3' : (i : Int) < l.length := by omega
   have hw := w64s (n := i) (by omega)
   have q1 : l.drop i = l[i] :: l.drop (i + 1) := List.drop_eq_getElem_cons h3
   have xa := fun h => hl.ix h .i64 i h3
   have em : ammx false [.int .i64 s, .int .i64 l[i]] = some (.int .i64 (if l[i] < s then l[i] else s)) := by simp only [ammx,amm]; rfl
   rw [q1, List.foldl_cons, ← ih (i + 1) m _ (by omega) (by omega)]
   simp only [loop_e,EB_slices_Min_sint_int_0,Zaa,Zab,Zac,Zad,Zae,Zag,Zaj,Zak,Zan,Zar,Zau,Zay,Zbi,Zbk,Zbo,Zbq,Zcb,Zcg,Zcl,Zcv,Zcw,Zcx,Zcz,Zda,Zdb,Zdc,Zdd,Q2,Q7,Q4,Q5,Zde,Zdh,decide_true,eq_self,la,h3',xa,lv,em,hw]
 cases l with
 | nil => exact absurd rfl h0
 | cons x l =>
  have e := loop l.length 1 (l.length + 1 + 1) x (by simp; omega) (by omega)
  have h1 : ¬ ((l.length + 1 : Nat) : Int) < 1 := by omega
  have xa := fun h => hl.ix h .i64 0 (by simp)
  rw [Y2] at xa
  simp only [Z3,Z5,Q0] at e
  have z1 : ((1 : Nat) : Int) = 1 := rfl
  rw [z1] at e
  rw [z0] at xa
  rw [R_slices_Min_sint_int, minD]
  simp only [Zaa,Zab,Zac,Zad,Zae,Zaf,Zag,Zai,Zaj,Zak,Zap,Zas,Zat,Zay,Zbi,Zbk,Zbo,Zbq,Zcb,Zcg,Zcu,Zcv,Zcw,Zcx,Zdb,Zdc,Zdd,Q2,Q7,Q4,Q5,Z1,Zdh,decide_false,Q0,Q1,Nat.reduceAdd,Nat.reduceSub,eq_self,true_and,Q0,Q1,Q8,Q9,Q3,Q6,la,h1,xa,lv,e,Q0,resAll,resVals,resVal,Z0,Prod.mk.injEq,true_and,exists_eq']
end Go.Proofs.Ytkgndbhflehhhaa.Ai
namespace Go.Proofs.Ytkgndbhflehhhaa.Ai
open Go Go.Proofs
open AV renaming junk → J
open List renaming length_cons → Q0, length_nil → Q1, set_cons_zero → Q2, cons_append → Q3, getD_cons_zero → Q4, getD_cons_succ → Q5, nil_append → Q6, set_cons_succ → Q7, replicate_succ → Q8, replicate_zero → Q9, getElem?_cons_zero → Z2, drop_succ_cons → Z3, take_succ_cons → Z4, drop_zero → Z5, take_zero → Z7, all_cons → Z8, take_nil → Y0, all_nil → Y1, getElem_cons_zero → Y2
open Option.some renaming injEq → Z0
open Option renaming map_some → Z1, bind_some → Z6
open Bool renaming and_self → Z9
set_option linter.unusedVariables false
set_option linter.unusedSimpArgs false
set_option maxRecDepth 10000
set_option maxHeartbeats 4000000
theorem lim_clean {C : Cfg} (hx : C.ix = fun _ => none) {g : Nat} (hp : C.pu g = true) {fn : AFn} (hP : C.P g = some fn) (n : Nat) {a : List AV} {l : List (AV × Bool)} {H : AHeap} (ha : mapO (freeze H 1000) a = some l) {x y : AV} {c : Bool} {h' : AHeap}
  (hr : runFn (lim C) n fn (l.map (·.1)) [] = some (x, h')) (hf : freeze h' 1000 x = some (y, c)) (hc : cleanV h' 1000 x = true) : lim C (.func g) a H = some (y, H) := by
 refine lim_pure hp n ?_
 unfold pureCall
 rw [ha]
 simp only [pureRes,pureClean,hx,hP,hr,hf,hc,Z1,Bool.or_true,cond_true]
structure Nest {X : Type} (en : X → List (List AV)) (xs : List X) (cs : List (List AV)) (h : AHeap) (S : Nat → Prop) : Prop where
 len : cs.length = xs.length
 row : ∀ (j : Nat) (hj : j < xs.length), ∃ rv q, cs[j]? = some [rv] ∧ OwnG 1 (en xs[j]) rv h q ∧ ∀ i, q = some i → S i
section
variable {X : Type} {en : X → List (List AV)} {xs : List X} {cs : List (List AV)} {h h' : AHeap} {S S' : Nat → Prop}
theorem Nest.nil (en : X → List (List AV)) (h : AHeap) (S : Nat → Prop) : Nest en [] [] h S := ⟨rfl, fun j hj => by simp at hj⟩
theorem Nest.frame (hn : Nest en xs cs h S) (hf : ∀ i o, S i → h[i]? = some o → h'[i]? = some o) : Nest en xs cs h' S :=
 ⟨hn.len, fun j hj => by
  obtain ⟨rv, q, h1, h2, h3⟩ := hn.row j hj
  exact ⟨rv, q, h1, h2.frame (fun i o e => hf i o (h3 i e)), h3⟩⟩
theorem Nest.mono (hn : Nest en xs cs h S) (hS : ∀ i, S i → S' i) : Nest en xs cs h S' :=
 ⟨hn.len, fun j hj => by
  obtain ⟨rv, q, h1, h2, h3⟩ := hn.row j hj
  exact ⟨rv, q, h1, h2, fun i e => hS i (h3 i e)⟩⟩
theorem Nest.push (hn : Nest en xs cs h S) {x : X} {rv : AV} {q : Option Nat} (ho : OwnG 1 (en x) rv h q) (hS : ∀ i, q = some i → S i) : Nest en (xs ++ [x]) (cs ++ [[rv]]) h S := by
 refine ⟨by simp [hn.len], fun j hj => ?_⟩
 by_cases c : j < xs.length
 ·obtain ⟨rv, q, h1, h2, h3⟩ := hn.row j c
  refine ⟨rv, q, ?_, ?_, h3⟩
  ·rw [List.getElem?_append_left (by rw [hn.len]; exact c)]; exact h1
  ·rw [List.getElem_append_left c]; exact h2
 ·have e : j = xs.length := by simp at hj; omega
  subst e
  refine ⟨rv, q, ?_, ?_, hS⟩
  ·rw [← hn.len]; simp
  ·simpa using ho
theorem Nest.all (hn : Nest en xs cs h S) : cs.all (fun c => c.length == 1 && c.all cellOk) = true := by
 rw [List.all_eq_true]
 intro c hc
 obtain ⟨j, hj, rfl⟩ := List.getElem_of_mem hc
 obtain ⟨rv, q, h1, h2, _⟩ := hn.row j (by rw [← hn.len]; exact hj)
 rw [List.getElem?_eq_getElem hj] at h1
 rw [Option.some.inj h1]
 simp [h2.cell.2]
theorem fzN {P : X → AV → Prop} {v : AV} {q : Option Nat} (ho : OwnG 1 cs v h q) (d : Nat) (hl : cs.length = xs.length) (hc : ∀ (j : Nat) (hj : j < xs.length), ∃ rv x c, cs[j]? = some [rv] ∧ freeze h (d + 1) rv = some (x, c) ∧ P xs[j] x) : ∃ y c, freeze h (d + 2) v = some (y, c) ∧ LiG P xs y := by
 rcases ho with ⟨h1, h2, _⟩ | ⟨h1, i, ver, _, h3, h4⟩
 ·subst h1 h2
  have : xs = [] := List.length_eq_zero_iff.1 (by simpa using hl.symm)
  exact ⟨.nilS, true, rfl, .inl ⟨this, rfl⟩⟩
 ·subst h3
  have hm : ∀ (xs : List X) (cs : List (List AV)), cs.length = xs.length → (∀ (j : Nat) (hj : j < xs.length), ∃ rv x c, cs[j]? = some [rv] ∧ freeze h (d + 1) rv = some (x, c) ∧ P xs[j] x) → ∃ q, mapO (mapO (freeze h (d + 1))) cs = some q ∧ q.length = xs.length ∧ ∀ (j : Nat) (hj : j < xs.length), ∃ rv, (q.map (·.map (·.1)))[j]? = some [rv] ∧ P xs[j] rv := by
   intro xs
   induction xs with
   | nil => intro cs hl _; have : cs = [] := List.length_eq_zero_iff.1 (by simpa using hl); subst this; exact ⟨[], rfl, rfl, fun j hj => by simp at hj⟩
   | cons x xs ih =>
    intro cs hl hc
    cases cs with
    | nil => simp at hl
    | cons c cs =>
     obtain ⟨rv, y, b, k1, k2, k3⟩ := hc 0 (by simp)
     simp at k1
     subst k1
     obtain ⟨q, e1, e2, e3⟩ := ih cs (by simpa using hl) (fun j hj => by
      obtain ⟨rv, x, c, k1, k2, k3⟩ := hc (j + 1) (by simpa using hj)
      exact ⟨rv, x, c, by simpa using k1, k2, by simpa using k3⟩)
     have e4 : mapO (freeze h (d + 1)) [rv] = some [(y, b)] := mapO_1 k2
     refine ⟨[(y, b)] :: q, by simp only [mapO] at e4 ⊢; simp only [e4,e1], by simp [e2], fun j hj => ?_⟩
     cases j with
     | zero => exact ⟨y, rfl, k3⟩
     | succ j =>
      obtain ⟨rv, a1, a2⟩ := e3 j (by simpa using hj)
      exact ⟨rv, by simpa using a1, by simpa using a2⟩
  obtain ⟨q, e1, e2, e3⟩ := hm xs cs hl hc
  have := freeze_hslG (d := d + 1) (n := cs.length) (cc := none) (q := q) h4 (Nat.le_refl _) (by rw [List.take_length]; exact e1)
  exact ⟨_, false, this, .inr ⟨false, _, rfl, by simp [e2], e3⟩⟩
theorem clN {v : AV} {q : Option Nat} {sz : Nat} (ho : OwnG sz cs v h q) (d : Nat) (hc : ∀ c ∈ cs, c.all (cleanV h d) = true) : cleanV h (d + 1) v = true := by
 rcases ho with ⟨h1, h2, _⟩ | ⟨h1, i, ver, _, h3, h4⟩
 ·subst h2; rfl
 ·subst h3
  have hg : getArr h i ver = some (sz, false, cs) := by simp only [getArr,h4,if_true]
  simp only [cleanV,hg]
  rw [Z5, List.take_length, List.all_eq_true]
  exact hc
end
theorem clI {l : List Int} {v : AV} {h : AHeap} {q : Option Nat} (ho : OwnG 1 (eIs l) v h q) (d : Nat) : cleanV h (d + 2) v = true := by
 refine clN ho (d + 1) (fun c hc => ?_)
 simp only [eIs,List.mem_map] at hc
 obtain ⟨x, _, rfl⟩ := hc
 simp [eI, cleanV, flat0]
theorem Nest.fz {xs : List (List Int)} {cs : List (List AV)} {h : AHeap} {S : Nat → Prop} (hn : Nest eIs xs cs h S) {v : AV} {q : Option Nat} (ho : OwnG 1 cs v h q) (d : Nat) : ∃ y c, freeze h (d + 3) v = some (y, c) ∧ LiR xs y := by
 refine fzN (P := Li) ho (d + 1) hn.len (fun j hj => ?_)
 obtain ⟨rv, q, h1, h2, _⟩ := hn.row j hj
 obtain ⟨x, c, e1, e2⟩ := fzI h2 d
 exact ⟨rv, x, c, h1, e1, e2⟩
theorem Nest.clean {xs : List (List Int)} {cs : List (List AV)} {h : AHeap} {S : Nat → Prop} (hn : Nest eIs xs cs h S) {v : AV} {q : Option Nat} (ho : OwnG 1 cs v h q) (d : Nat) : cleanV h (d + 3) v = true := by
 refine clN ho (d + 2) (fun c hc => ?_)
 obtain ⟨j, hj, rfl⟩ := List.getElem_of_mem hc
 obtain ⟨rv, q, h1, h2, _⟩ := hn.row j (by rw [← hn.len]; exact hj)
 rw [List.getElem?_eq_getElem hj] at h1
 rw [Option.some.inj h1]
 simp [clI h2 d]
theorem OwnG.pushE {sz : Nat} {rows : List (List AV)} {c : List AV} {v w : AV} {h : AHeap} {q : Option Nat} (hel : elemsOf h sz w = some [c]) (ho : OwnG sz rows v h q) (hsz : c.length = sz) (hc : c.all cellOk = true) (hall : rows.all (fun c => c.length == sz && c.all cellOk) = true) (bytes : Nat) (hb : bytes ≤ 1000) (hl : rows.length ≤ 1000000) :
  ∃ i ver h', aapp h sz bytes v w = some (.hsl i ver 0 (rows.length + 1) none, h') ∧ OwnG sz (rows ++ [c]) (.hsl i ver 0 (rows.length + 1) none) h' (some i) ∧ (∀ j o, h[j]? = some o → q ≠ some j → h'[j]? = some o) ∧ (q = some i ∨ (q = none ∧ i = h.length)) ∧ h.length ≤ h'.length := by
 obtain ⟨i, ver, h', r1, r⟩ := ho.push true hsz hc hall bytes hb hl
 refine ⟨i, ver, h', ?_, r⟩
 rw [← r1]
 have e2 : elemsOf h sz (.vsl true [c]) = some [c] := by simp [elemsOf, hsz]
 unfold aapp
 rw [hel, e2]
theorem OwnG.pushRow {rows : List (List AV)} {v w : AV} {h : AHeap} {q : Option Nat} (ho : OwnG 1 rows v h q) (hw : cellsOf w = [w] ∧ cellOk w = true) (hall : rows.all (fun c => c.length == 1 && c.all cellOk) = true) (bytes : Nat) (hb : bytes ≤ 1000) (hl : rows.length ≤ 1000000) (z : AV) :
  ∃ lit h1 i ver h', abs0 h false 1 1 [z] [(0, w)] = some (lit, h1) ∧ aapp h1 1 bytes v lit = some (.hsl i ver 0 (rows.length + 1) none, h') ∧ OwnG 1 (rows ++ [[w]]) (.hsl i ver 0 (rows.length + 1) none) h' (some i) ∧ (∀ j o, h[j]? = some o → q ≠ some j → h'[j]? = some o) ∧ (q = some i ∨ (q = none ∧ h.length ≤ i)) ∧ h.length ≤ h'.length := by
 have hc : ([w] : List AV).all cellOk = true := by simp [hw.2]
 cases hp : pure1 w with
 | true =>
  obtain ⟨i, ver, h', r1, r2, r3, r4, r5⟩ := ho.push true (c := [w]) rfl hc hall bytes hb hl
  exact ⟨_, _, i, ver, h', lit1' h z w hp hw.1, r1, r2, r3, r4.imp id (fun k => ⟨k.1, by omega⟩), r5⟩
 | false =>
  have e1 : abs0 h false 1 1 [z] [(0, w)] = some (.hsl h.length 0 0 1 none, h ++ [.arr 0 1 true [[w]]]) := by
   simp [abs0, fillCells, flatParts, putCells, hw.1, chop, hp]
  have e2 : elemsOf (h ++ [.arr 0 1 true [[w]]]) 1 (.hsl h.length 0 0 1 none) = some [[w]] := by
   simp [elemsOf, getArr]
  have ho1 : OwnG 1 rows v (h ++ [.arr 0 1 true [[w]]]) q := ho.frame fun i o _ e => get_app e _
  obtain ⟨i, ver, h', r1, r2, r3, r4, r5⟩ := OwnG.pushE (c := [w]) e2 ho1 rfl hc hall bytes hb hl
  refine ⟨_, _, i, ver, h', e1, r1, r2, fun j o e => r3 j o (get_app e _), r4.imp id (fun k => ⟨k.1, ?_⟩), ?_⟩
  ·have := k.2; simp at this; omega
  ·simp at r5; omega
theorem map_ne {α β : Type} {f : α → β} {l : List α} (h : 0 < l.length) : l.map f ≠ [] := by
 cases l with
 | nil => simp at h
 | cons a l => simp
end Go.Proofs.Ytkgndbhflehhhaa.Ai
