/- The reference of pack.Lay: its small functions. -/
import Derived.Test.YtkgndbhflehhhaamPlv
namespace Go.Proofs.Ytkgndbhflehhhaa.Ai
open Go Go.Proofs
open AV renaming junk → J
open List renaming set_cons_zero → Q0, getD_cons_zero → Q1, getD_cons_succ → Q2, length_cons → Q3, set_cons_succ → Q4, length_nil → Q5, drop_zero → Q6, take_succ_cons → Q7, replicate_succ → Q9, replicate_zero → Z0, take_nil → Z1, drop_eq_getElem_cons → Z3, cons_append → Z4, nil_append → Z6, drop_eq_nil_iff → Z8
open Option renaming bind_some → Q8, map_some → Z5
open Option.some renaming injEq → Z2
open Bool renaming not_false → Z7, not_true → Z9
set_option linter.unusedVariables false
set_option linter.unusedSimpArgs false
set_option maxRecDepth 10000
set_option maxHeartbeats 4000000
theorem r_same {a b : List Int} {v w : AV} (ha : Li a v) (hb : Li b w) (hm : a.length ≤ 1000000000) (H : AHeap) : lim G0.cfg (.func 29) [v, w] H = some (.bool (decide (a = b)), H) := by
 refine lim_flat rfl rfl P_r32_same (a.length + 1) (fun h => fz_2 (ha.fz h 999) (hb.fz h 999)) ?_ (fun _ => rfl) H
 have la := ha.len
 have lb := hb.len
 have loop : a.length = b.length → ∀ (d i m : Nat), a.length = i + d → d < m → loopN (evalCode (lim G0.cfg) (a.length + 1) B_r32_same_0) m ⟨[v, w, J,J,J, .int .i64 i, J,J,J,J,J,J,J,J,J,J,J,J,J,J,J,J,J,J,J,J], []⟩ = bif decide (a.drop i = b.drop i) then some (.exit 0, ⟨[J,J,J,J,J,J,J,J,J,J,J,J,J,J,J,J,J,J,J,J,J,J,J,J,J,J], []⟩) else some (.ret, ⟨[J,J,J,J, .bool false, J,J,J,J,J,J,J,J,J,J,J,J,J,J,J,J,J,J,J,J,J], []⟩) := by
  intro hl d
  induction d with
  | zero =>
   intro i m h1 h2
   obtain ⟨m, rfl⟩ : ∃ q, m = q + 1 := ⟨m - 1, by omega⟩
   have h3 : ¬ ((i : Int) < a.length) := by omega
   have q1 : a.drop i = [] := Z8.2 (by omega)
   have q2 : b.drop i = [] := Z8.2 (by omega)
   rw [q1, q2]
   simp only [loop_e,EB_r32_same_0,Zab,Zac,Zad,Zag,Zah,Zaj,Zak,Zal,Zas,Zav,Zay,Zbi,Zbk,Zbq,Zcg,Zcv,Zcx,Zdc,Zdd,Q0,Q4,Q1,Q2,Zdh,decide_true,decide_false,eq_self,cond_true,la,h3]
  | succ d ih =>
   intro i m h1 h2
   obtain ⟨m, rfl⟩ : ∃ q, m = q + 1 := ⟨m - 1, by omega⟩
   have h3 : i < a.length := by omega
   have h4 : i < b.length := by omega
   have h3' : (i : Int) < a.length := by omega
   have hw := w64s (n := i) (by omega)
   have q1 : a.drop i = a[i] :: a.drop (i + 1) := Z3 h3
   have q2 : b.drop i = b[i] :: b.drop (i + 1) := Z3 h4
   have xa := fun h => ha.ix h .i64 i h3
   have xb := fun h => hb.ix h .i64 i h4
   rw [q1, q2]
   by_cases e : a[i] = b[i]
   case pos =>
    have e1 : decide (a[i] :: a.drop (i + 1) = b[i] :: b.drop (i + 1)) = decide (a.drop (i + 1) = b.drop (i + 1)) := by rw [decide_eq_decide, e, List.cons.injEq]; simp only [true_and]
    have e2 : decide (a[i] = b[i]) = true := decide_eq_true e
    rw [e1, ← ih (i + 1) m (by omega) (by omega)]
    simp only [loop_e,EB_r32_same_0,Zaa,Zab,Zac,Zad,Zae,Zag,Zaj,Zak,Zan,Zar,Zas,Zau,Zay,Zbi,Zbk,Zbo,Zbq,Zcb,Zcg,Zcv,Zcw,Zcx,Zdb,Zdc,Zdd,Q0,Q4,Q1,Q2,Q8,Zde,Zdh,Zdm,Zdz,decide_true,Z9,Q3,Q5,if_true,Nat.reduceAdd,Nat.reduceLeDiff,eq_self,aload,acells,part,eI,Q6,Q7,Z1,Q0,la,h3',xa,xb,e2,hw]
   case neg =>
    have e1 : decide (a[i] :: a.drop (i + 1) = b[i] :: b.drop (i + 1)) = false := decide_eq_false fun h => e (List.cons.inj h).1
    have e2 : decide (a[i] = b[i]) = false := decide_eq_false e
    rw [e1]
    simp only [loop_e,EB_r32_same_0,Zaa,Zab,Zac,Zad,Zae,Zag,Zai,Zaj,Zak,Zam,Zao,Zar,Zaw,Zay,Zbi,Zbk,Zbo,Zbq,Zcb,Zcg,Zcv,Zcw,Zcx,Zdb,Zdc,Zdd,Q0,Q4,Q1,Q2,Q8,Zdh,Zdm,Zdz,decide_true,Z7,Q3,Q5,if_true,Nat.reduceAdd,Nat.reduceLeDiff,eq_self,cond_false,aload,acells,part,eI,Q6,Q7,Z1,Q0,la,h3',xa,xb,e2]
 rw [R_r32_same]
 by_cases q : (a.length : Int) = b.length
 case neg =>
  have e1 : decide (a = b) = false := decide_eq_false fun h => q (by rw [h])
  have e2 : decide ((a.length : Int) = b.length) = false := decide_eq_false q
  rw [e1]
  simp only [Zab,Zac,Zad,Zai,Zaj,Zak,Zam,Zar,Zay,Zbi,Zbk,Zbq,Zcg,Zcu,Zcv,Zcw,Zcx,Q0,Q4,Q1,Q2,Z5,Zdm,Z7,Q3,Q5,Nat.reduceAdd,Nat.reduceSub,eq_self,true_and,Q3,Q5,Q9,Z0,Z4,Z6,la,lb,e2,resAll,resVals,resVal,Z2,Prod.mk.injEq,true_and,exists_eq']
 case pos =>
  have e2 : decide ((a.length : Int) = b.length) = true := decide_eq_true q
  have e := loop (by omega) a.length 0 (a.length + 1) (by omega) (by omega)
  rw [Q6, Q6, z0] at e
  by_cases q2 : a = b
  ·rw [decide_eq_true q2, cond_true] at e
   rw [decide_eq_true q2]
   simp only [Zaa,Zab,Zac,Zad,Zae,Zaf,Zag,Zai,Zaj,Zak,Zap,Zas,Zat,Zay,Zbi,Zbk,Zbq,Zcg,Zcu,Zcv,Zcw,Zcx,Zdb,Zdc,Zdd,Q0,Q4,Q1,Q2,Z5,Zdm,Z9,Q3,Q5,Nat.reduceAdd,Nat.reduceSub,eq_self,true_and,Q3,Q5,Q9,Z0,Z4,Z6,la,lb,e2,e,resAll,resVals,resVal,Z2,Prod.mk.injEq,true_and,exists_eq']
  ·rw [decide_eq_false q2, cond_false] at e
   rw [decide_eq_false q2]
   simp only [Zaa,Zab,Zac,Zad,Zae,Zaf,Zag,Zaj,Zak,Zam,Zao,Zas,Zat,Zay,Zbi,Zbk,Zbq,Zcg,Zcu,Zcv,Zcw,Zcx,Zdb,Zdc,Zdd,Q0,Q4,Q1,Q2,Z5,Zdm,Z9,Q3,Q5,Nat.reduceAdd,Nat.reduceSub,eq_self,true_and,Q3,Q5,Q9,Z0,Z4,Z6,la,lb,e2,e,resAll,resVals,resVal,Z2,Prod.mk.injEq,true_and,exists_eq']
theorem r_some {a : List Int} {v : AV} (ha : Li a v) (hm : a.length ≤ 1000000000) (H : AHeap) : lim G0.cfg (.func 48) [v] H = some (.int .i64 (cntD a), H) := by
 refine lim_flat rfl rfl P_r32_some (a.length + 1) (fun h => fz_1 (ha.fz h 999)) ?_ (fun _ => rfl) H
 have la := ha.len
 have loop : ∀ (d i m c : Nat), a.length = i + d → d < m → c ≤ i → loopN (evalCode (lim G0.cfg) (a.length + 1) B_r32_some_0) m ⟨[v, J,J, .int .i64 c, .int .i64 i, J,J,J,J,J,J,J,J,J,J,J,J,J,J], []⟩ = some (.exit 0, ⟨[J,J,J, .int .i64 ((c + cntD (a.drop i) : Nat) : Int), J,J,J,J,J,J,J,J,J,J,J,J,J,J,J], []⟩) := by
  intro d
  induction d with
  | zero =>
   intro i m c h1 h2 h3
   obtain ⟨m, rfl⟩ : ∃ q, m = q + 1 := ⟨m - 1, by omega⟩
   have h4 : ¬ ((i : Int) < a.length) := by omega
   have q1 : a.drop i = [] := Z8.2 (by omega)
   have q2 : c + cntD [] = c := rfl
   rw [q1, q2]
   simp only [loop_e,EB_r32_some_0,Zab,Zac,Zad,Zag,Zah,Zaj,Zak,Zal,Zas,Zav,Zay,Zbi,Zbk,Zbq,Zcg,Zcv,Zcx,Zdb,Zdc,Zdd,Q0,Q4,Q1,Q2,Zdh,decide_false,eq_self,la,h4]
  | succ d ih =>
   intro i m c h1 h2 h3
   obtain ⟨m, rfl⟩ : ∃ q, m = q + 1 := ⟨m - 1, by omega⟩
   have h4 : i < a.length := by omega
   have h4' : (i : Int) < a.length := by omega
   have hw := w64s (n := i) (by omega)
   have hw2 := w64s (n := c) (by omega)
   have q1 : a.drop i = a[i] :: a.drop (i + 1) := Z3 h4
   have xa := fun h => ha.ix h .i64 i h4
   rw [q1]
   by_cases e : a[i] = 0
   case pos =>
    have e1 : cntD (a[i] :: a.drop (i + 1)) = cntD (a.drop (i + 1)) := cntD_0 _ e
    have e2 : decide (a[i] = 0) = true := decide_eq_true e
    rw [e1, ← ih (i + 1) m c (by omega) (by omega) (by omega)]
    simp only [loop_e,EB_r32_some_0,Zaa,Zab,Zac,Zad,Zae,Zag,Zaj,Zak,Zan,Zar,Zas,Zau,Zay,Zbi,Zbk,Zbo,Zbq,Zcb,Zcg,Zcv,Zcw,Zcx,Zdb,Zdc,Zdd,Q0,Q4,Q1,Q2,Q8,Zde,Zdh,Zdm,Zdz,decide_true,Z9,Q3,Q5,if_true,Nat.reduceAdd,Nat.reduceLeDiff,eq_self,aload,acells,part,eI,Q6,Q7,Z1,Q0,la,h4',xa,e2,hw]
   case neg =>
    have e1 : c + cntD (a[i] :: a.drop (i + 1)) = (c + 1) + cntD (a.drop (i + 1)) := by rw [cntD_1 _ e]; omega
    have e2 : decide (a[i] = 0) = false := decide_eq_false e
    rw [e1, ← ih (i + 1) m (c + 1) (by omega) (by omega) (by omega)]
    simp only [loop_e,EB_r32_some_0,Zaa,Zab,Zac,Zad,Zae,Zag,Zaj,Zak,Zan,Zar,Zau,Zay,Zbi,Zbk,Zbo,Zbq,Zcb,Zcg,Zcv,Zcw,Zcx,Zdb,Zdc,Zdd,Q0,Q4,Q1,Q2,Q8,Zde,Zdh,Zdm,Zdz,decide_true,Z7,Q3,Q5,if_true,Nat.reduceAdd,Nat.reduceLeDiff,eq_self,aload,acells,part,eI,Q6,Q7,Z1,Q0,la,h4',xa,e2,hw,hw2]
 have e := loop a.length 0 (a.length + 1) 0 (by omega) (by omega) (by omega)
 rw [Q6, Nat.zero_add, z0] at e
 rw [R_r32_some]
 simp only [Zab,Zac,Zae,Zaf,Zag,Zai,Zaj,Zak,Zap,Zat,Zbi,Zbk,Zcu,Zcv,Zcw,Zcx,Zdb,Zdc,Zdd,Q0,Q4,Q1,Q2,Z5,Q3,Q5,Nat.reduceAdd,Nat.reduceSub,eq_self,true_and,Q3,Q5,Q9,Z0,Z4,Z6,e,resAll,resVals,resVal,Z2,Prod.mk.injEq,true_and,exists_eq']
theorem run_fits {chk row : List Int} {cv rv : AV} (hc : Li chk cv) (h2 : Li row rv) (k : Nat) (hk1 : k ≤ 1000000000) (hk2 : chk.length ≤ 1000000000) (hm : row.length ≤ 1000000) :
  ∃ h', runFn (lim G0.cfg) (row.length + 1) A_r32_fits [cv, rv, .int .i64 k] [] = some (.bool (fitsD chk row k), h') := by
 have lr := h2.len
 have lk := hc.len
 have loop : ∀ (d i m : Nat), row.length = i + d → d < m → loopN (evalCode (lim G0.cfg) (row.length + 1) B_r32_fits_0) m ⟨[cv, rv, .int .i64 k, J,J,J,J, .int .i64 i, J,J,J,J,J,J,J,J,J,J,J,J,J,J,J,J,J,J,J,J,J,J,J,J,J,J,J,J], []⟩ = bif fitsD chk (row.drop i) (k + i) then some (.exit 0, ⟨[J,J,J,J,J,J,J,J,J,J,J,J,J,J,J,J,J,J,J,J,J,J,J,J,J,J,J,J,J,J,J,J,J,J,J,J], []⟩) else some (.ret, ⟨[J,J,J,J,J,J, .bool false, J,J,J,J,J,J,J,J,J,J,J,J,J,J,J,J,J,J,J,J,J,J,J,J,J,J,J,J,J], []⟩) := by
  intro d
  induction d with
  | zero =>
   intro i m h1 h2
   obtain ⟨m, rfl⟩ : ∃ q, m = q + 1 := ⟨m - 1, by omega⟩
   have h3 : ¬ ((i : Int) < row.length) := by omega
   have q1 : row.drop i = [] := Z8.2 (by omega)
   rw [q1, fitsD, cond_true]
   simp only [loop_e,EB_r32_fits_0,Zab,Zac,Zad,Zag,Zah,Zaj,Zak,Zal,Zas,Zav,Zay,Zbi,Zbk,Zbq,Zcg,Zcv,Zcx,Zdc,Zdd,Q0,Q4,Q1,Q2,Zdh,decide_false,eq_self,lr,h3]
  | succ d ih =>
   intro i m h1' h2'
   obtain ⟨m, rfl⟩ : ∃ q, m = q + 1 := ⟨m - 1, by omega⟩
   have h3 : i < row.length := by omega
   have h3' : (i : Int) < row.length := by omega
   have hw := w64s (n := i) (by omega)
   have hw2 := w64a (a := k) (b := i) (by omega)
   have q1 : row.drop i = row[i] :: row.drop (i + 1) := Z3 h3
   have xa := fun h => h2.ix h .i64 i h3
   have e := ih (i + 1) m (by omega) (by omega)
   rw [q1, fitsD]
   rw [← Nat.add_assoc] at e
   by_cases z : row[i] = 0
   case pos =>
    have d1 : decide (row[i] ≠ 0) = false := decide_eq_false (by simp [z])
    have d2 : decide (row[i] = 0) = true := decide_eq_true z
    rw [d1, Bool.false_and, cond_false, ← e]
    simp only [loop_e,EB_r32_fits_0,Zaa,Zab,Zac,Zad,Zae,Zag,Zaj,Zak,Zan,Zar,Zas,Zau,Zay,Zbe,Zbh,Zbi,Zbj,Zbk,Zbl,Zbo,Zbq,Zcb,Zcg,Zcv,Zcw,Zcx,Zdb,Zdc,Zdd,Q0,Q4,Q1,Q2,Q8,Zde,Zdh,Zdm,Zdz,decide_true,Z9,Q3,Q5,if_true,Nat.reduceAdd,Nat.reduceLeDiff,eq_self,aload,acells,part,eI,Q6,Q7,Z1,Q0,lr,h3',xa,d2,hw]
   case neg =>
   have d1 : decide (row[i] ≠ 0) = true := decide_eq_true z
   have d2 : decide (row[i] = 0) = false := decide_eq_false z
   rw [d1, Bool.true_and]
   by_cases y : k + i < chk.length
   case neg =>
    have d3 : decide (k + i < chk.length) = false := decide_eq_false y
    have d4 : ¬ (((k + i : Nat) : Int) < chk.length) := by omega
    rw [d3, Bool.false_and, cond_false, ← e]
    simp only [loop_e,EB_r32_fits_0,Zaa,Zab,Zac,Zad,Zae,Zag,Zaj,Zak,Zan,Zar,Zas,Zau,Zay,Zbb,Zbe,Zbg,Zbh,Zbi,Zbj,Zbk,Zbl,Zbo,Zbq,Zcb,Zcg,Zcv,Zcw,Zcx,Zdb,Zdc,Zdd,Q0,Q4,Q1,Q2,Q8,Zde,Zdh,Zdm,Zdz,decide_true,decide_false,Z7,Q3,Q5,if_true,Nat.reduceAdd,Nat.reduceLeDiff,eq_self,aload,acells,part,eI,Q6,Q7,Z1,Q0,lr,h3',xa,d2,hw,hw2,lk,d4]
   case pos =>
    have d3 : decide (k + i < chk.length) = true := decide_eq_true y
    have d4 : ((k + i : Nat) : Int) < chk.length := by omega
    have xc := fun h => hc.ix h .i64 (k + i) y
    have gd : chk.getD (k + i) 0 = chk[k + i] := by simp [y]
    rw [d3, Bool.true_and, gd]
    by_cases u : chk[k + i] = 0
    ·have d5 : decide (chk[k + i] = 0) = true := decide_eq_true u
     have d6 : decide (chk[k + i] ≠ 0) = false := decide_eq_false (by simp [u])
     rw [d6, cond_false, ← e]
     simp only [loop_e,EB_r32_fits_0,Zaa,Zab,Zac,Zad,Zae,Zag,Zaj,Zak,Zan,Zar,Zas,Zau,Zay,Zbb,Zbg,Zbi,Zbj,Zbk,Zbl,Zbo,Zbq,Zcb,Zcg,Zcv,Zcw,Zcx,Zdb,Zdc,Zdd,Q0,Q4,Q1,Q2,Q8,Zde,Zdh,Zdm,Zdz,decide_true,Z9,Z7,Q3,Q5,if_true,Nat.reduceAdd,Nat.reduceLeDiff,eq_self,aload,acells,part,eI,Q6,Q7,Z1,Q0,lr,h3',xa,d2,hw,hw2,lk,d4,xc,d5]
    ·have d5 : decide (chk[k + i] = 0) = false := decide_eq_false u
     have d6 : decide (chk[k + i] ≠ 0) = true := decide_eq_true u
     rw [d6, cond_true, cond_false]
     simp only [loop_e,EB_r32_fits_0,Zaa,Zab,Zac,Zad,Zae,Zag,Zai,Zaj,Zak,Zam,Zao,Zar,Zaw,Zay,Zbb,Zbg,Zbi,Zbj,Zbk,Zbl,Zbo,Zbq,Zcb,Zcg,Zcv,Zcw,Zcx,Zdb,Zdc,Zdd,Q0,Q4,Q1,Q2,Q8,Zde,Zdh,Zdm,Zdz,decide_true,Z7,Q3,Q5,if_true,Nat.reduceAdd,Nat.reduceLeDiff,eq_self,aload,acells,part,eI,Q6,Q7,Z1,Q0,lr,h3',xa,d2,hw2,lk,d4,xc,d5]
 have e := loop row.length 0 (row.length + 1) (by omega) (by omega)
 obtain ⟨bb, hbb⟩ : ∃ b, b = fitsD chk row k := ⟨_, rfl⟩
 rw [Q6, show fitsD chk row (k + 0) = bb from hbb.symm, z0] at e
 rw [R_r32_fits, ← hbb]
 cases bb with
 | true =>
  rw [cond_true] at e
  simp only [Zab,Zac,Zae,Zaf,Zag,Zai,Zaj,Zak,Zap,Zat,Zbi,Zbk,Zcu,Zcw,Zcx,Zdb,Zdc,Zdd,Q0,Q4,Q1,Q2,Z5,Q3,Q5,Nat.reduceAdd,Nat.reduceSub,eq_self,true_and,Q3,Q5,Q9,Z0,Z4,Z6,e,resAll,resVals,resVal,Z2,Prod.mk.injEq,true_and,exists_eq']
 | false =>
  rw [cond_false] at e
  simp only [Zab,Zac,Zae,Zaf,Zag,Zaj,Zak,Zam,Zao,Zat,Zbi,Zbk,Zcu,Zcw,Zcx,Zdb,Zdc,Zdd,Q0,Q4,Q1,Q2,Z5,Q3,Q5,Nat.reduceAdd,Nat.reduceSub,eq_self,true_and,Q3,Q5,Q9,Z0,Z4,Z6,e,resAll,resVals,resVal,Z2,Prod.mk.injEq,true_and,exists_eq']
end Go.Proofs.Ytkgndbhflehhhaa.Ai
