/- Reading an entry: the reference's; which tables are looked at. -/
import Derived.Test.YtkgndbhflehhhaamPk1
namespace Go.Proofs.Ytkgndbhflehhhaa.Ai
open Go Go.Proofs
open List renaming set_cons_zero → Q0, length_cons → Q1, cons_append → Q2, length_nil → Q3, nil_append → Q4, getElem?_cons_zero → Q5, getD_cons_zero → Q6, getD_cons_succ → Q7, replicate_succ → Q8, replicate_zero → Q9, take_succ_cons → Z0, set_cons_succ → Z1, drop_succ_cons → Z5, drop_zero → Z6, take_zero → Z7, take_nil → Z8
open Option.some renaming injEq → Z2
open Option renaming bind_some → Z3, map_some → Z4
set_option linter.unusedVariables false
set_option linter.unusedSimpArgs false
set_option maxRecDepth 10000
set_option maxHeartbeats 4000000
theorem r_At {c : RowT} {cs : List AV} (hc : RT c cs) (l1 : c.base.length ≤ 1000000000) (l2 : c.val.length ≤ 1000000000) (l3 : c.own.length ≤ 1000000000) (hbase : ∀ x ∈ c.base, -9223372036854775808 ≤ x ∧ x ≤ 9223372036854775807) (row col : Int) (hcol : col ≤ 9223372036854775807) (H : AHeap) :
  lim G0.cfg (.func 17) [.agg cs, .int .i64 row, .int .i64 col] H = some (.int .i64 (atD c row col), H) := by
 refine lim_flat rfl rfl P_r32_At 1 (fun h => fz_3 (fz_RT hc h) rfl rfl) ?_ (fun _ => rfl) H
 obtain ⟨a, b, v, o, rfl, ha, hb, hv, ho⟩ := hc
 obtain ⟨ca1, ca2⟩ := ha.cell
 obtain ⟨cb1, cb2⟩ := hb.cell
 obtain ⟨cv1, cv2⟩ := hv.cell
 obtain ⟨co1, co2⟩ := ho.cell
 have la := ha.len
 have lb := hb.len
 have lv := hv.len
 have lo := ho.len
 have xa := fun h => ha.ixG h .i64 (j := row)
 obtain ⟨i, hi⟩ : ∃ i, i = c.row.getD row.toNat 0 := ⟨_, rfl⟩
 obtain ⟨bb, hbb⟩ : ∃ bb, bb = c.base.getD i.toNat 0 := ⟨_, rfl⟩
 have xb := fun h => hb.ixG h .i64 (j := i)
 have xv := fun h => hv.ixG h .i64 (j := bb + col)
 have xo := fun h => ho.ixG h .i64 (j := bb + col)
 unfold atD
 rw [← hi] at xa ⊢
 rw [← hbb] at xb ⊢
 obtain ⟨ov, hov⟩ : ∃ ov, ov = c.own.getD (bb + col).toNat 0 := ⟨_, rfl⟩
 obtain ⟨vv, hvv⟩ : ∃ vv, vv = c.val.getD (bb + col).toNat 0 := ⟨_, rfl⟩
 rw [← hov] at xo ⊢
 rw [← hvv] at xv ⊢
 obtain ⟨res, hres⟩ : ∃ res, res = (if row < 0 ∨ (c.row.length : Int) ≤ row ∨ col < 0 then 0 else if i < 0 ∨ (c.base.length : Int) ≤ i then 0 else if bb + col < 0 ∨ (c.val.length : Int) ≤ bb + col ∨ (c.own.length : Int) ≤ bb + col ∨ ov ≠ i + 1 then 0 else vv) := ⟨_, rfl⟩
 rw [← hres]
 rw [R_r32_At]
 by_cases p1 : row < 0
 case pos =>
  have hr : res = 0 := by rw [hres]; split; rfl; split; rfl; split; rfl; exfalso; omega
  simp only [Zab,Zac,Zad,Zai,Zaj,Zak,Zam,Zar,Zay,Zaz,Zbd,Zbg,Zbi,Zbj,Zbk,Zbl,Zbn,Zbq,Zcs,Zcu,Zcv,Zcw,Zcx,Q0,Z1,Q6,Q7,Z4,Zdh,Zeb,decide_true,Q1,Q3,if_true,Nat.reduceAdd,Nat.reduceSub,eq_self,true_and,Q1,Q3,Q8,Q9,Q2,Q4,Q2,Q4,Q0,p1,hr,resAll,resVals,resVal,Z2,Prod.mk.injEq,true_and,exists_eq']
 case neg =>
 by_cases p2 : (c.row.length : Int) ≤ row
 case pos =>
  have hr : res = 0 := by rw [hres]; split; rfl; split; rfl; split; rfl; exfalso; omega
  simp only [Zab,Zac,Zad,Zai,Zaj,Zak,Zam,Zar,Zay,Zaz,Zbc,Zbd,Zbg,Zbh,Zbi,Zbj,Zbk,Zbl,Zbn,Zbo,Zbq,Zby,Zcg,Zcs,Zcu,Zcv,Zcw,Zcx,Q0,Z1,Q6,Q7,Z3,Z4,Zdh,Zdk,Zdx,Zdz,Zeb,decide_true,decide_false,Q5,Q1,Q3,if_true,Nat.reduceAdd,Nat.reduceSub,Nat.reduceLeDiff,eq_self,true_and,Q1,Q3,Q8,Q9,Q2,Q4,aload,acells,getArr,part,Z6,Z0,Z7,Q2,Q4,Q0,p1,la,p2,hr,resAll,resVals,resVal,Z2,Prod.mk.injEq,true_and,exists_eq']
 case neg =>
 by_cases p3 : col < 0
 case pos =>
  have hr : res = 0 := by rw [hres]; split; rfl; split; rfl; split; rfl; exfalso; omega
  simp only [Zab,Zac,Zad,Zai,Zaj,Zak,Zam,Zar,Zay,Zaz,Zbc,Zbh,Zbi,Zbj,Zbk,Zbl,Zbn,Zbo,Zbq,Zby,Zcg,Zcs,Zcu,Zcv,Zcw,Zcx,Q0,Z1,Q6,Q7,Z3,Z4,Zdh,Zdk,Zdx,Zdz,Zeb,decide_true,decide_false,Q5,Q1,Q3,if_true,Nat.reduceAdd,Nat.reduceSub,Nat.reduceLeDiff,eq_self,true_and,Q1,Q3,Q8,Q9,Q2,Q4,aload,acells,getArr,part,Z6,Z0,Z7,Q2,Q4,Q0,p1,la,p2,p3,hr,resAll,resVals,resVal,Z2,Prod.mk.injEq,true_and,exists_eq']
 case neg =>
 have xa' := fun h => xa h (by omega) (by omega)
 by_cases p4 : i < 0
 case pos =>
  have hr : res = 0 := by rw [hres]; split; rfl; split; rfl; split; rfl; exfalso; omega
  simp only [Zaa,Zab,Zac,Zad,Zai,Zaj,Zak,Zam,Zar,Zas,Zay,Zaz,Zbc,Zbd,Zbg,Zbh,Zbi,Zbj,Zbk,Zbl,Zbn,Zbo,Zbq,Zby,Zcb,Zcg,Zcs,Zcu,Zcv,Zcw,Zcx,Q0,Z1,Q6,Q7,Z3,Z4,Zdh,Zdk,Zdx,Zdz,Zeb,decide_true,decide_false,Q5,Q1,Q3,if_true,Nat.reduceAdd,Nat.reduceSub,Nat.reduceLeDiff,eq_self,true_and,Q1,Q3,Q8,Q9,Q2,Q4,aload,acells,getArr,part,eI,Z6,Z0,Z7,Z8,Q2,Q4,Q0,p1,la,p2,p3,xa',p4,hr,resAll,resVals,resVal,Z2,Prod.mk.injEq,true_and,exists_eq']
 case neg =>
 by_cases p5 : (c.base.length : Int) ≤ i
 case pos =>
  have hr : res = 0 := by rw [hres]; split; rfl; split; rfl; split; rfl; exfalso; omega
  simp only [Zaa,Zab,Zac,Zad,Zai,Zaj,Zak,Zam,Zar,Zas,Zay,Zaz,Zbc,Zbh,Zbi,Zbj,Zbk,Zbl,Zbn,Zbo,Zbq,Zby,Zcb,Zcg,Zcs,Zcu,Zcv,Zcw,Zcx,Q0,Z1,Q6,Q7,Z3,Z4,Zdh,Zdk,Zdx,Zdz,Zeb,decide_true,decide_false,Q5,Q1,Q3,if_true,Nat.reduceAdd,Nat.reduceSub,Nat.reduceLeDiff,eq_self,true_and,Q1,Q3,Q8,Q9,Q2,Q4,aload,acells,getArr,part,eI,Z6,Z5,Z0,Z7,Z8,Q2,Q4,Q0,p1,la,p2,p3,xa',p4,lb,p5,hr,resAll,resVals,resVal,Z2,Prod.mk.injEq,true_and,exists_eq']
 case neg =>
 have xb' := fun h => xb h (by omega) (by omega)
 have hbr := hbase bb (by rw [hbb]; simp [show i.toNat < c.base.length by omega])
 have w0 : IntKind.i64.wrap (-col) = -col := w64 (by omega) (by omega)
 by_cases p6 : (c.val.length : Int) ≤ bb
 case pos =>
  have hr : res = 0 := by rw [hres]; split; rfl; split; rfl; split; rfl; exfalso; omega
  simp only [Zaa,Zab,Zac,Zad,Zai,Zaj,Zak,Zam,Zar,Zas,Zay,Zaz,Zbc,Zbd,Zbg,Zbh,Zbi,Zbj,Zbk,Zbl,Zbn,Zbo,Zbq,Zby,Zcb,Zcg,Zcs,Zcu,Zcv,Zcw,Zcx,Q0,Z1,Q6,Q7,Z3,Z4,Zdh,Zdk,Zdx,Zdz,Zeb,decide_true,decide_false,Q5,Q1,Q3,if_true,Nat.reduceAdd,Nat.reduceSub,Nat.reduceLeDiff,eq_self,true_and,Q1,Q3,Q8,Q9,Q2,Q4,aload,acells,getArr,part,eI,Z6,Z5,Z0,Z7,Z8,Q2,Q4,Q0,p1,la,p2,p3,xa',p4,lb,p5,xb',lv,p6,hr,resAll,resVals,resVal,Z2,Prod.mk.injEq,true_and,exists_eq']
 case neg =>
 by_cases p6b : bb < -col
 case pos =>
  have hr : res = 0 := by rw [hres]; split; rfl; split; rfl; split; rfl; exfalso; omega
  simp only [Zaa,Zab,Zac,Zad,Zai,Zaj,Zak,Zam,Zar,Zas,Zay,Zaz,Zbc,Zbh,Zbi,Zbj,Zbk,Zbl,Zbn,Zbo,Zbq,Zbr,Zby,Zcb,Zcg,Zcs,Zcu,Zcv,Zcw,Zcx,Q0,Z1,Q6,Q7,Z3,Z4,Zdh,Zdk,Zds,Zdx,Zdz,Zeb,decide_true,decide_false,Q5,Q1,Q3,if_true,Nat.reduceAdd,Nat.reduceSub,Nat.reduceLeDiff,eq_self,true_and,Q1,Q3,Q8,Q9,Q2,Q4,aload,acells,getArr,part,eI,Z6,Z5,Z0,Z7,Z8,Q2,Q4,Q0,p1,la,p2,p3,xa',p4,lb,p5,xb',lv,w0,p6,p6b,hr,resAll,resVals,resVal,Z2,Prod.mk.injEq,true_and,exists_eq']
 case neg =>
 have p9 : ¬ bb + col < 0 := by omega
 by_cases p7 : (c.val.length : Int) ≤ col
 case pos =>
  by_cases p8 : 0 ≤ bb
  ·have hr : res = 0 := by rw [hres]; split; rfl; split; rfl; split; rfl; exfalso; omega
   simp only [Zaa,Zab,Zac,Zad,Zai,Zaj,Zak,Zam,Zar,Zas,Zay,Zaz,Zbb,Zbc,Zbg,Zbh,Zbi,Zbj,Zbk,Zbl,Zbn,Zbo,Zbq,Zbr,Zby,Zcb,Zcg,Zcs,Zcu,Zcv,Zcw,Zcx,Q0,Z1,Q6,Q7,Z3,Z4,Zdh,Zdk,Zds,Zdx,Zdz,Zeb,decide_true,decide_false,Q5,Q1,Q3,if_true,Nat.reduceAdd,Nat.reduceSub,Nat.reduceLeDiff,eq_self,true_and,Q1,Q3,Q8,Q9,Q2,Q4,aload,acells,getArr,part,eI,Z6,Z5,Z0,Z7,Z8,Q2,Q4,Q0,p1,la,p2,p3,xa',p4,lb,p5,xb',lv,w0,p6,p6b,p7,p8,hr,resAll,resVals,resVal,Z2,Prod.mk.injEq,true_and,exists_eq']
  have w1 : IntKind.i64.wrap (bb + col) = bb + col := w64 (by omega) (by omega)
  have w2 : IntKind.i64.wrap (i + 1) = i + 1 := w64 (by omega) (by omega)
  by_cases p10 : (c.val.length : Int) ≤ bb + col
  ·have hr : res = 0 := by rw [hres]; split; rfl; split; rfl; split; rfl; exfalso; omega
   simp only [Zaa,Zab,Zac,Zad,Zai,Zaj,Zak,Zam,Zar,Zas,Zay,Zaz,Zbb,Zbc,Zbd,Zbg,Zbh,Zbi,Zbj,Zbk,Zbl,Zbn,Zbo,Zbq,Zbr,Zby,Zcb,Zcg,Zcs,Zcu,Zcv,Zcw,Zcx,Q0,Z1,Q6,Q7,Z3,Z4,Zde,Zdh,Zdk,Zds,Zdx,Zdz,Zeb,decide_true,decide_false,Q5,Q1,Q3,if_true,Nat.reduceAdd,Nat.reduceSub,Nat.reduceLeDiff,eq_self,true_and,Q1,Q3,Q8,Q9,Q2,Q4,aload,acells,getArr,part,eI,Z6,Z5,Z0,Z7,Z8,Q2,Q4,Q0,p1,la,p2,p3,xa',p4,lb,p5,xb',lv,w0,p6,p6b,p7,p8,w1,p9,p10,hr,resAll,resVals,resVal,Z2,Prod.mk.injEq,true_and,exists_eq']
  by_cases p10b : (c.own.length : Int) ≤ bb + col
  ·have hr : res = 0 := by rw [hres]; split; rfl; split; rfl; split; rfl; exfalso; omega
   simp only [Zaa,Zab,Zac,Zad,Zai,Zaj,Zak,Zam,Zar,Zas,Zay,Zaz,Zbb,Zbc,Zbd,Zbg,Zbh,Zbi,Zbj,Zbk,Zbl,Zbn,Zbo,Zbq,Zbr,Zby,Zcb,Zcg,Zcs,Zcu,Zcv,Zcw,Zcx,Q0,Z1,Q6,Q7,Z3,Z4,Zde,Zdh,Zdk,Zds,Zdx,Zdz,Zeb,decide_true,decide_false,Q5,Q1,Q3,if_true,Nat.reduceAdd,Nat.reduceSub,Nat.reduceLeDiff,eq_self,true_and,Q1,Q3,Q8,Q9,Q2,Q4,aload,acells,getArr,part,eI,Z6,Z5,Z0,Z7,Z8,Q2,Q4,Q0,p1,la,p2,p3,xa',p4,lb,p5,xb',lv,lo,w0,p6,p6b,p7,p8,w1,p9,p10,p10b,hr,resAll,resVals,resVal,Z2,Prod.mk.injEq,true_and,exists_eq']
  have xo' := fun h => xo h (by omega) (by omega)
  have xv' := fun h => xv h (by omega) (by omega)
  by_cases p11 : ov = i + 1
  ·have p11' : decide (ov = i + 1) = true := decide_eq_true p11
   have hr : res = vv := by rw [hres]; split; (exfalso; omega); split; (exfalso; omega); split; (exfalso; omega); rfl
   simp only [Zaa,Zab,Zac,Zad,Zai,Zaj,Zak,Zas,Zay,Zaz,Zbb,Zbc,Zbg,Zbh,Zbi,Zbj,Zbk,Zbl,Zbn,Zbo,Zbq,Zbr,Zby,Zcb,Zcg,Zcs,Zcu,Zcv,Zcw,Zcx,Q0,Z1,Q6,Q7,Z3,Z4,Zde,Zdh,Zdk,Zdm,Zds,Zdx,Zdz,Zeb,decide_true,decide_false,Bool.not_true,Q5,Q1,Q3,if_true,Nat.reduceAdd,Nat.reduceSub,Nat.reduceLeDiff,eq_self,true_and,Q1,Q3,Q8,Q9,Q2,Q4,aload,acells,getArr,part,eI,Z6,Z5,Z0,Z7,Z8,Q2,Q4,Q0,p1,la,p2,p3,xa',p4,lb,p5,xb',lv,lo,w0,p6,p6b,p7,p8,w1,p9,p10,p10b,xo',w2,p11',xv',hr,resAll,resVals,resVal,Z2,Prod.mk.injEq,true_and,exists_eq']
  ·have p11' : decide (ov = i + 1) = false := decide_eq_false p11
   have hr : res = 0 := by rw [hres]; split; rfl; split; rfl; split; rfl; exfalso; omega
   simp only [Zaa,Zab,Zac,Zad,Zai,Zaj,Zak,Zam,Zar,Zas,Zay,Zaz,Zbb,Zbc,Zbg,Zbh,Zbi,Zbj,Zbk,Zbl,Zbn,Zbo,Zbq,Zbr,Zby,Zcb,Zcg,Zcs,Zcu,Zcv,Zcw,Zcx,Q0,Z1,Q6,Q7,Z3,Z4,Zde,Zdh,Zdk,Zdm,Zds,Zdx,Zdz,Zeb,decide_true,decide_false,Bool.not_false,Q5,Q1,Q3,if_true,Nat.reduceAdd,Nat.reduceSub,Nat.reduceLeDiff,eq_self,true_and,Q1,Q3,Q8,Q9,Q2,Q4,aload,acells,getArr,part,eI,Z6,Z5,Z0,Z7,Z8,Q2,Q4,Q0,p1,la,p2,p3,xa',p4,lb,p5,xb',lv,lo,w0,p6,p6b,p7,p8,w1,p9,p10,p10b,xo',w2,p11',hr,resAll,resVals,resVal,Z2,Prod.mk.injEq,true_and,exists_eq']
 case neg =>
  have w1 : IntKind.i64.wrap (bb + col) = bb + col := w64 (by omega) (by omega)
  have w2 : IntKind.i64.wrap (i + 1) = i + 1 := w64 (by omega) (by omega)
  by_cases p10 : (c.val.length : Int) ≤ bb + col
  ·have hr : res = 0 := by rw [hres]; split; rfl; split; rfl; split; rfl; exfalso; omega
   simp only [Zaa,Zab,Zac,Zad,Zai,Zaj,Zak,Zam,Zar,Zas,Zay,Zaz,Zbc,Zbd,Zbe,Zbg,Zbh,Zbi,Zbj,Zbk,Zbl,Zbn,Zbo,Zbq,Zbr,Zby,Zcb,Zcg,Zcs,Zcu,Zcv,Zcw,Zcx,Q0,Z1,Q6,Q7,Z3,Z4,Zde,Zdh,Zdk,Zds,Zdx,Zdz,Zeb,decide_true,decide_false,Q5,Q1,Q3,if_true,Nat.reduceAdd,Nat.reduceSub,Nat.reduceLeDiff,eq_self,true_and,Q1,Q3,Q8,Q9,Q2,Q4,aload,acells,getArr,part,eI,Z6,Z5,Z0,Z7,Z8,Q2,Q4,Q0,p1,la,p2,p3,xa',p4,lb,p5,xb',lv,w0,p6,p6b,p7,w1,p9,p10,hr,resAll,resVals,resVal,Z2,Prod.mk.injEq,true_and,exists_eq']
  by_cases p10b : (c.own.length : Int) ≤ bb + col
  ·have hr : res = 0 := by rw [hres]; split; rfl; split; rfl; split; rfl; exfalso; omega
   simp only [Zaa,Zab,Zac,Zad,Zai,Zaj,Zak,Zam,Zar,Zas,Zay,Zaz,Zbc,Zbd,Zbe,Zbg,Zbh,Zbi,Zbj,Zbk,Zbl,Zbn,Zbo,Zbq,Zbr,Zby,Zcb,Zcg,Zcs,Zcu,Zcv,Zcw,Zcx,Q0,Z1,Q6,Q7,Z3,Z4,Zde,Zdh,Zdk,Zds,Zdx,Zdz,Zeb,decide_true,decide_false,Q5,Q1,Q3,if_true,Nat.reduceAdd,Nat.reduceSub,Nat.reduceLeDiff,eq_self,true_and,Q1,Q3,Q8,Q9,Q2,Q4,aload,acells,getArr,part,eI,Z6,Z5,Z0,Z7,Z8,Q2,Q4,Q0,p1,la,p2,p3,xa',p4,lb,p5,xb',lv,lo,w0,p6,p6b,p7,w1,p9,p10,p10b,hr,resAll,resVals,resVal,Z2,Prod.mk.injEq,true_and,exists_eq']
  have xo' := fun h => xo h (by omega) (by omega)
  have xv' := fun h => xv h (by omega) (by omega)
  by_cases p11 : ov = i + 1
  ·have p11' : decide (ov = i + 1) = true := decide_eq_true p11
   have hr : res = vv := by rw [hres]; split; (exfalso; omega); split; (exfalso; omega); split; (exfalso; omega); rfl
   simp only [Zaa,Zab,Zac,Zad,Zai,Zaj,Zak,Zas,Zay,Zaz,Zbc,Zbe,Zbh,Zbi,Zbj,Zbk,Zbl,Zbn,Zbo,Zbq,Zbr,Zby,Zcb,Zcg,Zcs,Zcu,Zcv,Zcw,Zcx,Q0,Z1,Q6,Q7,Z3,Z4,Zde,Zdh,Zdk,Zdm,Zds,Zdx,Zdz,Zeb,decide_false,Bool.not_true,Q5,Q1,Q3,if_true,Nat.reduceAdd,Nat.reduceSub,Nat.reduceLeDiff,eq_self,true_and,Q1,Q3,Q8,Q9,Q2,Q4,aload,acells,getArr,part,eI,Z6,Z5,Z0,Z7,Z8,Q2,Q4,Q0,p1,la,p2,p3,xa',p4,lb,p5,xb',lv,lo,w0,p6,p6b,p7,w1,p9,p10,p10b,xo',w2,p11',xv',hr,resAll,resVals,resVal,Z2,Prod.mk.injEq,true_and,exists_eq']
  ·have p11' : decide (ov = i + 1) = false := decide_eq_false p11
   have hr : res = 0 := by rw [hres]; split; rfl; split; rfl; split; rfl; exfalso; omega
   simp only [Zaa,Zab,Zac,Zad,Zai,Zaj,Zak,Zam,Zar,Zas,Zay,Zaz,Zbc,Zbe,Zbh,Zbi,Zbj,Zbk,Zbl,Zbn,Zbo,Zbq,Zbr,Zby,Zcb,Zcg,Zcs,Zcu,Zcv,Zcw,Zcx,Q0,Z1,Q6,Q7,Z3,Z4,Zde,Zdh,Zdk,Zdm,Zds,Zdx,Zdz,Zeb,decide_false,Bool.not_false,Q5,Q1,Q3,if_true,Nat.reduceAdd,Nat.reduceSub,Nat.reduceLeDiff,eq_self,true_and,Q1,Q3,Q8,Q9,Q2,Q4,aload,acells,getArr,part,eI,Z6,Z5,Z0,Z7,Z8,Q2,Q4,Q0,p1,la,p2,p3,xa',p4,lb,p5,xb',lv,lo,w0,p6,p6b,p7,w1,p9,p10,p10b,xo',w2,p11',hr,resAll,resVals,resVal,Z2,Prod.mk.injEq,true_and,exists_eq']
theorem f_fewComb {c : RowT} {cs : List AV} (hc : RT c cs) (H : AHeap) : lim G0.cfg (.func 15) [.agg cs] H = some (.bool (decide ((c.row.length : Int) ≤ 60) && (decide ((c.base.length : Int) ≤ 60) && (decide ((c.val.length : Int) ≤ 1500) && decide ((c.own.length : Int) ≤ 1500)))), H) := by
 refine lim_flat rfl rfl P_l32_fewComb 1 (fun h => fz_1 (fz_RT hc h)) ?_ (fun _ => rfl) H
 obtain ⟨a, b, v, o, rfl, ha, hb, hv, ho⟩ := hc
 have la := ha.len
 have lb := hb.len
 have lv := hv.len
 have lo := ho.len
 rw [R_l32_fewComb]
 by_cases p1 : (c.row.length : Int) ≤ 60
 case neg => simp only [Zab,Zac,Zai,Zaj,Zak,Zay,Zaz,Zbe,Zbh,Zbi,Zbj,Zbk,Zbl,Zbn,Zbo,Zbq,Zby,Zcg,Zcs,Zcu,Zcv,Zcw,Zcx,Q0,Z1,Q6,Q7,Z3,Z4,Zdi,Zdx,Zdz,Zeb,decide_false,Q5,Q1,Q3,if_true,Nat.reduceAdd,Nat.reduceSub,Nat.reduceLeDiff,eq_self,true_and,Q1,Q3,Q8,Q9,Q2,Q4,aload,acells,getArr,part,Z6,Z0,Z7,Q2,Q4,Q0,la,p1,resAll,resVals,resVal,Z2,Prod.mk.injEq,true_and,Bool.false_and,exists_eq']
 case pos =>
 by_cases p2 : (c.base.length : Int) ≤ 60
 case neg => simp only [Zab,Zac,Zai,Zaj,Zak,Zay,Zaz,Zbb,Zbe,Zbg,Zbh,Zbi,Zbj,Zbk,Zbl,Zbn,Zbo,Zbq,Zby,Zcg,Zcs,Zcu,Zcv,Zcw,Zcx,Q0,Z1,Q6,Q7,Z3,Z4,Zdi,Zdx,Zdz,Zeb,decide_true,decide_false,Q5,Q1,Q3,if_true,Nat.reduceAdd,Nat.reduceSub,Nat.reduceLeDiff,eq_self,true_and,Q1,Q3,Q8,Q9,Q2,Q4,aload,acells,getArr,part,Z6,Z5,Z0,Z7,Q2,Q4,Q0,la,p1,lb,p2,resAll,resVals,resVal,Z2,Prod.mk.injEq,true_and,Bool.false_and,Bool.and_false,exists_eq']
 case pos =>
 by_cases p3 : (c.val.length : Int) ≤ 1500
 case neg => simp only [Zab,Zac,Zai,Zaj,Zak,Zay,Zaz,Zbb,Zbe,Zbg,Zbh,Zbi,Zbj,Zbk,Zbl,Zbn,Zbo,Zbq,Zby,Zcg,Zcs,Zcu,Zcv,Zcw,Zcx,Q0,Z1,Q6,Q7,Z3,Z4,Zdi,Zdx,Zdz,Zeb,decide_true,decide_false,Q5,Q1,Q3,if_true,Nat.reduceAdd,Nat.reduceSub,Nat.reduceLeDiff,eq_self,true_and,Q1,Q3,Q8,Q9,Q2,Q4,aload,acells,getArr,part,Z6,Z5,Z0,Z7,Q2,Q4,Q0,la,p1,lb,p2,lv,p3,resAll,resVals,resVal,Z2,Prod.mk.injEq,true_and,Bool.false_and,Bool.and_false,exists_eq']
 case pos =>
 by_cases p4 : (c.own.length : Int) ≤ 1500
 case neg => simp only [Zab,Zac,Zai,Zaj,Zak,Zay,Zaz,Zbb,Zbg,Zbi,Zbj,Zbk,Zbl,Zbn,Zbo,Zbq,Zby,Zcg,Zcs,Zcu,Zcv,Zcw,Zcx,Q0,Z1,Q6,Q7,Z3,Z4,Zdi,Zdx,Zdz,Zeb,decide_true,decide_false,Q5,Q1,Q3,if_true,Nat.reduceAdd,Nat.reduceSub,Nat.reduceLeDiff,eq_self,true_and,Q1,Q3,Q8,Q9,Q2,Q4,aload,acells,getArr,part,Z6,Z5,Z0,Z7,Z8,Q2,Q4,Q0,la,p1,lb,p2,lv,p3,lo,p4,resAll,resVals,resVal,Z2,Prod.mk.injEq,true_and,Bool.and_false,exists_eq']
 case pos => simp only [Zab,Zac,Zai,Zaj,Zak,Zay,Zaz,Zbb,Zbg,Zbi,Zbj,Zbk,Zbl,Zbn,Zbo,Zbq,Zby,Zcg,Zcs,Zcu,Zcv,Zcw,Zcx,Q0,Z1,Q6,Q7,Z3,Z4,Zdi,Zdx,Zdz,Zeb,decide_true,Q5,Q1,Q3,if_true,Nat.reduceAdd,Nat.reduceSub,Nat.reduceLeDiff,eq_self,true_and,Q1,Q3,Q8,Q9,Q2,Q4,aload,acells,getArr,part,Bool.and_self,Z6,Z5,Z0,Z7,Z8,Q2,Q4,Q0,la,p1,lb,p2,lv,p3,lo,p4,resAll,resVals,resVal,Z2,Prod.mk.injEq,true_and,exists_eq']
end Go.Proofs.Ytkgndbhflehhhaa.Ai
