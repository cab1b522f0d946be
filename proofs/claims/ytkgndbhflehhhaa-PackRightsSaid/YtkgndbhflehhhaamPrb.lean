/- The reference's Of; packed tables compared. -/
import Derived.Test.YtkgndbhflehhhaamPqv
import Derived.Test.YtkgndbhflehhhaamPra
namespace Go.Proofs.Ytkgndbhflehhhaa.Ai
open Go Go.Proofs
open AV renaming junk → J
open List renaming length_nil → Q0, length_cons → Q1, set_cons_zero → Q2, nil_append → Q3, getD_cons_zero → Q4, getD_cons_succ → Q5, cons_append → Q6, set_cons_succ → Q7, replicate_succ → Q8, replicate_zero → Q9, getElem?_cons_zero → Z0, getElem?_cons_succ → Z1, take_succ_cons → Z6, drop_succ_cons → Z9, drop_zero → Y0, take_zero → Y1, getElem_mem → Y3
open Option renaming map_some → Z2, bind_some → Z7
open Option.some renaming injEq → Z3
open Bool renaming not_true → Z4, false_and → Z5, not_false → Z8, and_false → Y4
open Nat renaming zero_add → Y2
set_option linter.unusedVariables false
set_option linter.unusedSimpArgs false
set_option maxRecDepth 10000
set_option maxHeartbeats 4000000
theorem fz_of {p : PackD} {cs : List AV} (hp : PackV p cs) (e : Int) (h : AHeap) : freeze h 1000 (.tup [.agg cs, .int .i64 e]) = some (.tup [.agg cs, .int .i64 e], true) := by
 have : freeze h 1000 (.tup [.agg cs, .int .i64 e]) = (mapO (freeze h 999) [.agg cs, .int .i64 e]).map fun l => (.tup (l.map (·.1)), l.all (·.2)) := rfl
 rw [this]
 have i1 : freeze h 999 (.int .i64 e) = some (.int .i64 e, true) := rfl
 simp only [mapO,hp.fz h 997,i1]; rfl
section
variable {t : TabD} {av gv : AV}
theorem r_Of (ha : LiG (LiG LiA) t.acts av) (hg : LiR t.gotos gv) (hn : t.ok → t.acts.length ≤ 1500) :
  (t.ok → ∃ cs, PackV (packD t) cs ∧ ∀ H, lim G0.cfg (.func 20) [.agg [av, gv]] H = some (.tup [.agg cs, .int .i64 0], H)) ∧
  (¬ t.ok → ∀ H, lim G0.cfg (.func 20) [.agg [av, gv]] H = some (.tup [.agg zeroP, .int .i64 34], H)) := by
 obtain ⟨h, hh⟩ : ∃ h : AHeap, h = [] := ⟨_, rfl⟩
 have bx := box_full h (n := 2) (l := [av, gv]) rfl (by simp [cellsOf])
 obtain ⟨A, hA⟩ : ∃ A, A = AObj.arr 0 2 true [[av, gv]] := ⟨_, rfl⟩
 obtain ⟨B, hB⟩ : ∃ B, B = AObj.arr 0 10 true [zeroP] := ⟨_, rfl⟩
 have lT : ∀ B C : AObj, aload (h ++ [A, B]) 2 true (.ptr h.length 0 0 0) = some (.agg [av, gv]) := fun B C => ld_full (by rw [get_2a, hA]) rfl
 have l0 := tab_a (av := av) (gv := gv) [A, B] (by rw [hA]; rfl)
 have l1 := tab_g (av := av) (gv := gv) [A, B] (by rw [hA]; rfl)
 have lT := lT B B
 have zc : cellsOf (.agg zeroP) = zeroP := rfl
 have sZ : astore (h ++ [A, B]) 10 (.ptr (h.length + 1) 0 0 0) (.agg zeroP) = some (h ++ [A, B]) := by
  have s := st_full (h := h ++ [A, B]) (i := h.length + 1) (ver := 0) (n := 10) (b := true) (z := zeroP) (l := zeroP) ((get_2b h A B).trans (by rw [hB])) rfl rfl zc rfl
  rw [hap_set, ← hB] at s
  exact s
 have lZ : aload (h ++ [A, B]) 10 true (.ptr (h.length + 1) 0 0 0) = some (.agg zeroP) := ld_full (b := true) (by rw [get_2b, hB]) rfl
 have fill0 : afill zeroP [] = some (.agg zeroP) := rfl
 have zl : zeroP.length = 10 := rfl
 have zz : [AV.int .i64 0, .int .i64 0, .nilS, .nilS, .nilS, .nilS, .nilS, .nilS, .nilS, .nilS] = zeroP := rfl
 obtain ⟨w1, w2⟩ := (⟨fun H => (r_shape ha hg H).1, fun H => (r_shape ha hg H).2⟩ : (∀ H, t.frame ∧ lenOk t.tm t.nt t.acts t.gotos = true → lim G0.cfg (.func 42) [.agg [av, gv]] H = some (.bool true, H)) ∧ (∀ H, ¬ (t.frame ∧ lenOk t.tm t.nt t.acts t.gotos = true) → lim G0.cfg (.func 42) [.agg [av, gv]] H = some (.bool false, H)))
 have flat := fun (p : PackD) (cs : List AV) (hp : PackV p cs) (e : Int) (N : Nat) (h' : AHeap) (hr : runFn (lim G0.cfg) N A_r32_Of [.agg [av, gv]] [] = some (.tup [.agg cs, .int .i64 e], h')) (H : AHeap) => lim_flat rfl rfl P_r32_Of N (tab_fz ha hg) ⟨h', hr⟩ (fz_of hp e) H
 by_cases c1 : t.frame ∧ lenOk t.tm t.nt t.acts t.gotos = true
 case neg =>
  have e1 := fun H => w2 H c1
  refine ⟨fun k => absurd ⟨k.1, (TabD.ok_len k).1⟩ c1, fun _ => flat packZ zeroP packZ_v 34 1 [A, B] ?_⟩
  subst hh
  simp only [Q3,Q0,Y2] at bx lT sZ lZ
  rw [← hA] at bx
  rw [R_r32_Of]
  simp only [Zab,Zac,Zad,Zai,Zaj,Zak,Zam,Zar,Zay,Zaz,Zba,Zbi,Zbk,Zbm,Zbn,Zbo,Zbp,Zbr,Zcm,Zcp,Zcq,Zcs,Zcu,Zcv,Zcw,Zcx,Zcy,Zcz,Zda,Q2,Q7,Q4,Q5,Z2,Zdr,Zeb,Z8,Q1,Q0,if_true,Nat.reduceAdd,Nat.reduceSub,eq_self,Q1,Q0,Q8,Q9,Q6,Q3,Q1,Q0,Y2,Q6,Q3,zz,zl,evp, ← hA, ← hB,lT,e1,fill0,sZ,lZ,resAll,resVals,resVal]
 case pos =>
 have e1 := fun H => w1 H c1
 obtain ⟨fr, lo⟩ := c1
 obtain ⟨f1, f2, f3, f4, f5, f6, f7⟩ := fr
 obtain ⟨lo1, lo2⟩ := allOk_len 0 t.tm t.nt t.acts t.gotos f3.symm lo
 obtain ⟨ka1, ka2⟩ := r_acts ha hg (by omega) (fun r hr => by have := lo1 r hr; omega)
 obtain ⟨kg1, kg2⟩ := r_gotos ha hg (by omega) (fun r hr => by have := lo2 r hr; omega)
 rw [f3] at kg1 kg2
 have ea : rowsA t.acts.length t.acts = t.numA := rfl
 have eg : rowsG t.acts.length t.gotos = t.numG := rfl
 rw [ea] at ka1 ka2
 rw [eg] at kg1 kg2
 by_cases c2 : t.numA.all nonNeg = true
 case neg =>
  have e2 := ka2 (by simpa using c2)
  refine ⟨fun k => absurd (TabD.ok_len k).2.1 c2, fun _ => flat packZ zeroP packZ_v 34 1 [A, B] ?_⟩
  subst hh
  simp only [Q3,Q0,Y2] at bx lT sZ lZ
  rw [← hA] at bx
  rw [R_r32_Of]
  simp only [Zaa,Zab,Zac,Zad,Zai,Zaj,Zak,Zam,Zar,Zas,Zay,Zaz,Zba,Zbi,Zbk,Zbm,Zbn,Zbo,Zbp,Zbr,Zcf,Zcm,Zcp,Zcq,Zcs,Zcu,Zcv,Zcw,Zcx,Zcy,Zcz,Zda,Q2,Q7,Q4,Q5,Z2,Zdr,Zeb,Zem,Z4,Z8,Z0,Z1,Q1,Q0,if_true,Nat.reduceAdd,Nat.reduceSub,eq_self,Q1,Q0,Q8,Q9,Q6,Q3,Q1,Q0,Y2,Q6,Q3,zz,zl,evp, ← hA, ← hB,lT,e1,e2,fill0,sZ,lZ,resAll,resVals,resVal]
 case pos =>
 obtain ⟨x2, h2, e2⟩ := ka1 c2
 by_cases c3 : t.numG.all nonNeg = true
 case neg =>
  have e3 := kg2 (by simpa using c3)
  refine ⟨fun k => absurd (TabD.ok_len k).2.2 c3, fun _ => flat packZ zeroP packZ_v 34 1 [A, B] ?_⟩
  subst hh
  simp only [Q3,Q0,Y2] at bx lT sZ lZ
  rw [← hA] at bx
  rw [R_r32_Of]
  simp only [Zaa,Zab,Zac,Zad,Zai,Zaj,Zak,Zam,Zar,Zas,Zay,Zaz,Zba,Zbi,Zbk,Zbm,Zbn,Zbo,Zbp,Zbr,Zcf,Zcm,Zcp,Zcq,Zcs,Zcu,Zcv,Zcw,Zcx,Zcy,Zcz,Zda,Q2,Q7,Q4,Q5,Z2,Zdr,Zeb,Zem,Z4,Z8,Z0,Z1,Q1,Q0,if_true,Nat.reduceAdd,Nat.reduceSub,eq_self,Q1,Q0,Q8,Q9,Q6,Q3,Q1,Q0,Y2,Q6,Q3,zz,zl,evp, ← hA, ← hB,lT,e1,e2,e3,fill0,sZ,lZ,resAll,resVals,resVal]
 case pos =>
 obtain ⟨x3, h3, e3⟩ := kg1 c3
 have hk : t.ok := TabD.ok_iff ⟨f1, f2, f3, f4, f5, f6, f7⟩ lo c2 c3
 refine ⟨fun _ => ?_, fun k => absurd hk k⟩
 obtain ⟨ca, cg, hca, hcg, d1, d2, b1, b2⟩ := of_partsR hk (hn hk) h2 h3
 have la0 := ha.len
 obtain ⟨ra, hra, xa⟩ := ha.ix 0 (by omega)
 obtain ⟨rg, hrg, xg⟩ := hg.ix 0 (by omega)
 rw [z0] at xa xg
 have nra := hra.len
 have nrg := hrg.len
 rw [← t.tm_0 (by omega)] at nra
 rw [← t.nt_0 (by omega)] at nrg
 obtain ⟨fl, pv⟩ := fill_P hca hcg t.tm t.nt
 obtain ⟨cs, hcs⟩ : ∃ cs, cs = [.int .i64 (t.tm : Int), .int .i64 (t.nt : Int)] ++ ca ++ cg := ⟨_, rfl⟩
 rw [← hcs] at fl pv
 obtain ⟨p1, p2, p3⟩ := pv.cells
 obtain ⟨C, hC⟩ : ∃ C, C = AObj.arr 0 10 true [cs] := ⟨_, rfl⟩
 have sC : astore (h ++ [A, B, B]) 10 (.ptr (h.length + 2) 0 0 0) (.agg cs) = some (h ++ [A, B, C]) := by
  have s := st_full (h := h ++ [A, B, B]) (i := h.length + 2) (ver := 0) (n := 10) (b := true) (z := zeroP) (l := cs) ((get_3c h A B B).trans (by rw [hB])) rfl p3 p1 p2
  rw [hap_set, ← hC] at s
  exact s
 have lC : aload (h ++ [A, B, C]) 10 true (.ptr (h.length + 2) 0 0 0) = some (.agg cs) := ld_full (b := true) (by rw [get_3c, hC]) p3
 have sB : astore (h ++ [A, B, C]) 10 (.ptr (h.length + 1) 0 0 0) (.agg cs) = some (h ++ [A, C, C]) := by
  have s := st_full (h := h ++ [A, B, C]) (i := h.length + 1) (ver := 0) (n := 10) (b := true) (z := zeroP) (l := cs) ((get_3b h A B C).trans (by rw [hB])) rfl p3 p1 p2
  rw [hap_set, ← hC] at s
  exact s
 have lB : aload (h ++ [A, C, C]) 10 true (.ptr (h.length + 1) 0 0 0) = some (.agg cs) := ld_full (b := true) (by rw [get_3b, hC]) p3
 have va : ∃ w, aload (h ++ [A, B, C]) 1 false (.ptr (h.length + 2) 0 0 4) = some w ∧ Li (packD t).a.val w := by
  obtain ⟨a1, a2, a3, a4, rfl, _, _, q3, _⟩ := hca
  refine ⟨a3, ?_, q3⟩
  obtain ⟨b1, b2, b3, b4, rfl, _, _, _, _⟩ := hcg
  rw [ld_p _ 1 _ 0 0 4 false 10 true _ cs (by rw [get_3c, hC]) rfl, hcs]; rfl
 have vg : ∃ w, aload (h ++ [A, B, C]) 1 false (.ptr (h.length + 2) 0 0 8) = some w ∧ Li (packD t).g.val w := by
  obtain ⟨b1, b2, b3, b4, rfl, _, _, q3, _⟩ := hcg
  refine ⟨b3, ?_, q3⟩
  obtain ⟨a1, a2, a3, a4, rfl, _, _, _, _⟩ := hca
  rw [ld_p _ 1 _ 0 0 8 false 10 true _ cs (by rw [get_3c, hC]) rfl, hcs]; rfl
 obtain ⟨wa, la, qa⟩ := va
 obtain ⟨wg, lg, qg⟩ := vg
 have na := qa.len
 have ng := qg.len
 have c1 : ¬ (1048576 : Int) < (packD t).a.val.length := by omega
 have c2 : ¬ (1048576 : Int) < (packD t).g.val.length := by omega
 refine ⟨cs, pv, flat _ cs pv 0 1 [A, C, C] ?_⟩
 subst hh
 simp only [Q3,Q0,Y2] at bx lT sZ lZ sC lC sB lB la lg
 rw [← hA] at bx
 rw [R_r32_Of]
 simp only [Zaa,Zab,Zac,Zad,Zai,Zaj,Zak,Zas,Zay,Zaz,Zba,Zbc,Zbh,Zbi,Zbj,Zbk,Zbl,Zbm,Zbn,Zbo,Zbp,Zbq,Zbr,Zby,Zcb,Zcf,Zcg,Zcm,Zcp,Zcq,Zcs,Zcu,Zcv,Zcw,Zcx,Zcy,Zcz,Zda,Q2,Q7,Q4,Q5,Z2,Zdj,Zdr,Zdx,Zeb,Zem,decide_false,Z4,Z0,Z1,Q1,Q0,if_true,Nat.reduceAdd,Nat.reduceSub,eq_self,Q1,Q0,Q8,Q9,Q6,Q3,Q1,Q0,Y2,Q6,Q3,zz,zl,evp, ← hA, ← hB,lT,e1,e2,e3,l0,l1,xa,xg,lv_p,nra,nrg,d1,d2,fl,sC,la,lg,na,ng,c1,c2,lC,sB,lB,resAll,resVals,resVal]
end
end Go.Proofs.Ytkgndbhflehhhaa.Ai
namespace Go.Proofs.Ytkgndbhflehhhaa.Ai
open Go Go.Proofs
open AV renaming junk → J
open List renaming length_nil → Q0, length_cons → Q1, set_cons_zero → Q2, nil_append → Q3, getD_cons_zero → Q4, getD_cons_succ → Q5, cons_append → Q6, set_cons_succ → Q7, replicate_succ → Q8, replicate_zero → Q9, getElem?_cons_zero → Z0, getElem?_cons_succ → Z1, take_succ_cons → Z6, drop_succ_cons → Z9, drop_zero → Y0, take_zero → Y1, getElem_mem → Y3
open Option renaming map_some → Z2, bind_some → Z7
open Option.some renaming injEq → Z3
open Bool renaming not_true → Z4, false_and → Z5, not_false → Z8, and_false → Y4
open Nat renaming zero_add → Y2
set_option linter.unusedVariables false
set_option linter.unusedSimpArgs false
set_option maxRecDepth 10000
set_option maxHeartbeats 4000000
def eqR (c d : RowT) : Bool := decide (c.row = d.row) && (decide (c.base = d.base) && (decide (c.val = d.val) && decide (c.own = d.own)))
theorem eqR_iff (c d : RowT) : eqR c d = true ↔ c = d := by
 obtain ⟨a1, a2, a3, a4⟩ := c
 obtain ⟨b1, b2, b3, b4⟩ := d
 simp [eqR]
theorem f_equal {c d : RowT} {cs ds : List AV} (hc : RT c cs) (hd : RT d ds) (l1 : c.row.length ≤ 1000000000) (l2 : c.base.length ≤ 1000000000) (l3 : c.val.length ≤ 1000000000) (l4 : c.own.length ≤ 1000000000) (H : AHeap) : lim G0.cfg (.func 46) [.agg cs, .agg ds] H = some (.bool (eqR c d), H) := by
 refine lim_flat rfl rfl P_pack_equal 1 (fun h => fz_2 (fz_RT hc h) (fz_RT hd h)) ?_ (fun _ => rfl) H
 obtain ⟨a, b, v, o, rfl, ha, hb, hv, ho⟩ := hc
 obtain ⟨a', b', v', o', rfl, ha', hb', hv', ho'⟩ := hd
 have f1 := f_same ha ha' l1
 have f2 := f_same hb hb' l2
 have f3 := f_same hv hv' l3
 have f4 := f_same ho ho' l4
 obtain ⟨ca1, ca2⟩ := ha.cell
 obtain ⟨cb1, cb2⟩ := hb.cell
 obtain ⟨cv1, cv2⟩ := hv.cell
 obtain ⟨co1, co2⟩ := ho.cell
 obtain ⟨da1, da2⟩ := ha'.cell
 obtain ⟨db1, db2⟩ := hb'.cell
 obtain ⟨dv1, dv2⟩ := hv'.cell
 obtain ⟨do1, do2⟩ := ho'.cell
 rw [R_pack_equal]
 unfold eqR
 generalize decide (c.row = d.row) = b1 at f1 ⊢
 generalize decide (c.base = d.base) = b2 at f2 ⊢
 generalize decide (c.val = d.val) = b3 at f3 ⊢
 generalize decide (c.own = d.own) = b4 at f4 ⊢
 cases b1
 ·simp only [Zab,Zac,Zai,Zaj,Zak,Zay,Zaz,Zbe,Zbh,Zbi,Zbj,Zbk,Zbl,Zbn,Zbo,Zby,Zcp,Zcq,Zcs,Zcu,Zcv,Zcw,Zcx,Zcz,Zda,Q2,Q7,Q4,Q5,Z7,Z2,Zdx,Zdz,Zeb,Z0,Z1,Q1,Q0,if_true,Nat.reduceAdd,Nat.reduceSub,Nat.reduceLeDiff,eq_self,true_and,Q1,Q0,Q8,Q9,Q6,Q3,aload,acells,getArr,part,Y0,Z6,Y1,Q6,Q3,Q2,f1,Z5,resAll,resVals,resVal,Z3,Prod.mk.injEq,true_and,Z5,exists_eq']
 cases b2
 ·simp only [Zab,Zac,Zai,Zaj,Zak,Zay,Zaz,Zbb,Zbe,Zbg,Zbh,Zbi,Zbj,Zbk,Zbl,Zbn,Zbo,Zby,Zcp,Zcq,Zcs,Zcu,Zcv,Zcw,Zcx,Zcz,Zda,Q2,Q7,Q4,Q5,Z7,Z2,Zdx,Zdz,Zeb,Z0,Z1,Q1,Q0,if_true,Nat.reduceAdd,Nat.reduceSub,Nat.reduceLeDiff,eq_self,true_and,Q1,Q0,Q8,Q9,Q6,Q3,aload,acells,getArr,part,Y0,Z9,Z6,Y1,Q6,Q3,Q2,f1,f2,Z5,resAll,resVals,resVal,Z3,Prod.mk.injEq,true_and,Z5,Y4,exists_eq']
 cases b3
 ·simp only [Zab,Zac,Zai,Zaj,Zak,Zay,Zaz,Zbb,Zbe,Zbg,Zbh,Zbi,Zbj,Zbk,Zbl,Zbn,Zbo,Zby,Zcp,Zcq,Zcs,Zcu,Zcv,Zcw,Zcx,Zcz,Zda,Q2,Q7,Q4,Q5,Z7,Z2,Zdx,Zdz,Zeb,Z0,Z1,Q1,Q0,if_true,Nat.reduceAdd,Nat.reduceSub,Nat.reduceLeDiff,eq_self,true_and,Q1,Q0,Q8,Q9,Q6,Q3,aload,acells,getArr,part,Y0,Z9,Z6,Y1,Q6,Q3,Q2,f1,f2,f3,Z5,resAll,resVals,resVal,Z3,Prod.mk.injEq,true_and,Z5,Y4,exists_eq']
 simp only [Zab,Zac,Zai,Zaj,Zak,Zay,Zaz,Zbb,Zbg,Zbi,Zbj,Zbk,Zbl,Zbn,Zbo,Zby,Zcp,Zcq,Zcs,Zcu,Zcv,Zcw,Zcx,Zcz,Zda,Q2,Q7,Q4,Q5,Z7,Z2,Zdx,Zdz,Zeb,Z0,Z1,Q1,Q0,if_true,Nat.reduceAdd,Nat.reduceSub,Nat.reduceLeDiff,eq_self,true_and,Q1,Q0,Q8,Q9,Q6,Q3,aload,acells,getArr,part,Y0,Z9,Z6,Y1,List.take_nil,Q6,Q3,Q2,f1,f2,f3,f4,Bool.true_and,resAll,resVals,resVal,Z3,Prod.mk.injEq,true_and,Bool.true_and,exists_eq']
theorem r_SameCombG {c d : RowT} {cs ds : List AV} (hc : RT c cs) (hd : RT d ds) (l1 : c.row.length ≤ 1000000000) (l2 : c.base.length ≤ 1000000000) (l3 : c.val.length ≤ 1000000000) (l4 : c.own.length ≤ 1000000000) (H : AHeap) : lim G0.cfg (.func 12) [.agg cs, .agg ds] H = some (.bool (eqR c d), H) := by
 refine lim_flat rfl rfl P_r32_SameComb 1 (fun h => fz_2 (fz_RT hc h) (fz_RT hd h)) ?_ (fun _ => rfl) H
 obtain ⟨a, b, v, o, rfl, ha, hb, hv, ho⟩ := hc
 obtain ⟨a', b', v', o', rfl, ha', hb', hv', ho'⟩ := hd
 have f1 := r_same ha ha' l1
 have f2 := r_same hb hb' l2
 have f3 := r_same hv hv' l3
 have f4 := r_same ho ho' l4
 obtain ⟨ca1, ca2⟩ := ha.cell
 obtain ⟨cb1, cb2⟩ := hb.cell
 obtain ⟨cv1, cv2⟩ := hv.cell
 obtain ⟨co1, co2⟩ := ho.cell
 obtain ⟨da1, da2⟩ := ha'.cell
 obtain ⟨db1, db2⟩ := hb'.cell
 obtain ⟨dv1, dv2⟩ := hv'.cell
 obtain ⟨do1, do2⟩ := ho'.cell
 rw [R_r32_SameComb]
 unfold eqR
 generalize decide (c.row = d.row) = b1 at f1 ⊢
 generalize decide (c.base = d.base) = b2 at f2 ⊢
 generalize decide (c.val = d.val) = b3 at f3 ⊢
 generalize decide (c.own = d.own) = b4 at f4 ⊢
 cases b1
 ·simp only [Zab,Zac,Zai,Zaj,Zak,Zay,Zaz,Zbe,Zbh,Zbi,Zbj,Zbk,Zbl,Zbn,Zbo,Zby,Zcp,Zcq,Zcs,Zcu,Zcv,Zcw,Zcx,Zcz,Zda,Q2,Q7,Q4,Q5,Z7,Z2,Zdx,Zdz,Zeb,Z0,Z1,Q1,Q0,if_true,Nat.reduceAdd,Nat.reduceSub,Nat.reduceLeDiff,eq_self,true_and,Q1,Q0,Q8,Q9,Q6,Q3,aload,acells,getArr,part,Y0,Z6,Y1,Q6,Q3,Q2,f1,Z5,resAll,resVals,resVal,Z3,Prod.mk.injEq,true_and,Z5,exists_eq']
 cases b2
 ·simp only [Zab,Zac,Zai,Zaj,Zak,Zay,Zaz,Zbb,Zbe,Zbg,Zbh,Zbi,Zbj,Zbk,Zbl,Zbn,Zbo,Zby,Zcp,Zcq,Zcs,Zcu,Zcv,Zcw,Zcx,Zcz,Zda,Q2,Q7,Q4,Q5,Z7,Z2,Zdx,Zdz,Zeb,Z0,Z1,Q1,Q0,if_true,Nat.reduceAdd,Nat.reduceSub,Nat.reduceLeDiff,eq_self,true_and,Q1,Q0,Q8,Q9,Q6,Q3,aload,acells,getArr,part,Y0,Z9,Z6,Y1,Q6,Q3,Q2,f1,f2,Z5,resAll,resVals,resVal,Z3,Prod.mk.injEq,true_and,Z5,Y4,exists_eq']
 cases b3
 ·simp only [Zab,Zac,Zai,Zaj,Zak,Zay,Zaz,Zbb,Zbe,Zbg,Zbh,Zbi,Zbj,Zbk,Zbl,Zbn,Zbo,Zby,Zcp,Zcq,Zcs,Zcu,Zcv,Zcw,Zcx,Zcz,Zda,Q2,Q7,Q4,Q5,Z7,Z2,Zdx,Zdz,Zeb,Z0,Z1,Q1,Q0,if_true,Nat.reduceAdd,Nat.reduceSub,Nat.reduceLeDiff,eq_self,true_and,Q1,Q0,Q8,Q9,Q6,Q3,aload,acells,getArr,part,Y0,Z9,Z6,Y1,Q6,Q3,Q2,f1,f2,f3,Z5,resAll,resVals,resVal,Z3,Prod.mk.injEq,true_and,Z5,Y4,exists_eq']
 simp only [Zab,Zac,Zai,Zaj,Zak,Zay,Zaz,Zbb,Zbg,Zbi,Zbj,Zbk,Zbl,Zbn,Zbo,Zby,Zcp,Zcq,Zcs,Zcu,Zcv,Zcw,Zcx,Zcz,Zda,Q2,Q7,Q4,Q5,Z7,Z2,Zdx,Zdz,Zeb,Z0,Z1,Q1,Q0,if_true,Nat.reduceAdd,Nat.reduceSub,Nat.reduceLeDiff,eq_self,true_and,Q1,Q0,Q8,Q9,Q6,Q3,aload,acells,getArr,part,Y0,Z9,Z6,Y1,List.take_nil,Q6,Q3,Q2,f1,f2,f3,f4,Bool.true_and,resAll,resVals,resVal,Z3,Prod.mk.injEq,true_and,Bool.true_and,exists_eq']
def PackD.tm (p : PackD) : Nat := p.tms.toNat
def PackD.nt (p : PackD) : Nat := p.nts.toNat
def PackD.n (p : PackD) : Nat := p.a.row.length
def frameB (p : PackD) : Prop := 2 ≤ p.tms ∧ p.tms ≤ 256 ∧ 1 ≤ p.nts ∧ p.nts ≤ 512 ∧ 1 ≤ p.n ∧ p.n ≤ 4096 ∧ p.g.row.length = p.n
def tabB (p : PackD) : TabD := ⟨actsB p p.tm 0 p.n, gotosB p p.nt 0 p.n⟩
def backOk (p : PackD) : Prop := frameB p ∧ okAll p p.tm 0 p.n = true ∧ (tabB p).ok ∧ packD (tabB p) = p
theorem tabB_len (p : PackD) : (tabB p).acts.length = p.n ∧ (tabB p).gotos.length = p.n := by simp [tabB, actsB, gotosB]
theorem rows_fz {xs : List (List (Int × Int))} {w : AV} {h : AHeap} {q : Option Nat} (ho : OwnG 1 (eCs xs) w h q) (d : Nat) : ∃ y c, freeze h (d + 2) w = some (y, c) ∧ LiG LiA xs y := by
 refine fzN (P := LiA) ho d (eCs_len xs) (fun j hj => ⟨cellV xs[j], cellV xs[j], true, by simp [eCs, hj], (cellV_li _).fz h d, cellV_li _⟩)
theorem Nest.fzA {xs : List (List (List (Int × Int)))} {cs : List (List AV)} {h : AHeap} {S : Nat → Prop} (hn : Nest eCs xs cs h S) {v : AV} {q : Option Nat} (ho : OwnG 1 cs v h q) (d : Nat) : ∃ y c, freeze h (d + 3) v = some (y, c) ∧ LiG (LiG LiA) xs y := by
 refine fzN (P := LiG LiA) ho (d + 1) hn.len (fun j hj => ?_)
 obtain ⟨rv, q, h1, h2, _⟩ := hn.row j hj
 obtain ⟨x, c, e1, e2⟩ := rows_fz h2 d
 exact ⟨rv, x, c, h1, e1, e2⟩
theorem fz_agg2 {h : AHeap} {a b x y : AV} {c d : Bool} {k : Nat} (h1 : freeze h k a = some (x, c)) (h2 : freeze h k b = some (y, d)) : freeze h (k + 1) (.agg [a, b]) = some (.agg [x, y], c && (d && true)) := by
 have : freeze h (k + 1) (.agg [a, b]) = (mapO (freeze h k) [a, b]).map fun l => (.agg (l.map (·.1)), l.all (·.2)) := rfl
 rw [this]
 simp only [mapO,h1,h2]; rfl
theorem fz_tup2 {h : AHeap} {a b x y : AV} {c d : Bool} {k : Nat} (h1 : freeze h k a = some (x, c)) (h2 : freeze h k b = some (y, d)) : freeze h (k + 1) (.tup [a, b]) = some (.tup [x, y], c && (d && true)) := by
 have : freeze h (k + 1) (.tup [a, b]) = (mapO (freeze h k) [a, b]).map fun l => (.tup (l.map (·.1)), l.all (·.2)) := rfl
 rw [this]
 simp only [mapO,h1,h2]; rfl
theorem packD_smallB {t : TabD} (hk : t.ok) (hn : t.acts.length ≤ 1500) : ((packD t).a.row.length ≤ 1000000000 ∧ (packD t).a.base.length ≤ 1000000000 ∧ (packD t).a.val.length ≤ 1000000000 ∧ (packD t).a.own.length ≤ 1000000000) ∧ ((packD t).g.row.length ≤ 1000000000 ∧ (packD t).g.base.length ≤ 1000000000 ∧ (packD t).g.val.length ≤ 1000000000 ∧ (packD t).g.own.length ≤ 1000000000) := by
 obtain ⟨s1, s2, s3, s4⟩ := TabD.sizes hk
 have fr := hk.1
 obtain ⟨f1, f2, f3, f4, f5, f6, f7⟩ := fr
 have m1 : t.numA.length * 256 ≤ 1500 * 256 := Nat.mul_le_mul_right 256 (by omega)
 have m2 : t.numG.length * 512 ≤ 1500 * 512 := Nat.mul_le_mul_right 512 (by omega)
 obtain ⟨z1, z2, z3, z4, z5, z6, z7⟩ := lay_sizes t.numA 256 (fun r hr => by rw [s3 r hr]; omega)
 obtain ⟨y1, y2, y3, y4, y5, y6, y7⟩ := lay_sizes t.numG 512 (fun r hr => by rw [s4 r hr]; omega)
 have x1 : (layT t.numA).row.length = t.numA.length := dist_len _
 have x2 : (layT t.numG).row.length = t.numG.length := dist_len _
 have e1 : (packD t).a = layT t.numA := rfl
 have e2 : (packD t).g = layT t.numG := rfl
 rw [e1, e2]
 exact ⟨⟨by omega, by omega, by omega, by omega⟩, by omega, by omega, by omega, by omega⟩
end Go.Proofs.Ytkgndbhflehhhaa.Ai
namespace Go.Proofs.Ytkgndbhflehhhaa.Ai
open Go Go.Proofs
open AV renaming junk → J
open List renaming length_nil → Q0, length_cons → Q1, set_cons_zero → Q2, nil_append → Q3, getD_cons_zero → Q4, getD_cons_succ → Q5, cons_append → Q6, set_cons_succ → Q7, replicate_succ → Q8, replicate_zero → Q9, getElem?_cons_zero → Z0, getElem?_cons_succ → Z1, take_succ_cons → Z6, drop_succ_cons → Z9, drop_zero → Y0, take_zero → Y1, getElem_mem → Y3
open Option renaming map_some → Z2, bind_some → Z7
open Option.some renaming injEq → Z3
open Bool renaming not_true → Z4, false_and → Z5, not_false → Z8, and_false → Y4
open Nat renaming zero_add → Y2
set_option linter.unusedVariables false
set_option linter.unusedSimpArgs false
set_option maxRecDepth 10000
set_option maxHeartbeats 4000000
section
variable {p : PackD} {cs : List AV}
theorem zero_2 (h : AHeap) (z : List (List AV)) (e : h[1]? = some (.arr 0 2 true [[.nilS, .nilS]])) : astore h 2 (.ptr 1 0 0 0) (.agg [.nilS, .nilS]) = some (h.set 1 (.arr 0 2 true [[.nilS, .nilS]])) ∧ aload (h.set 1 (.arr 0 2 true [[.nilS, .nilS]])) 2 true (.ptr 1 0 0 0) = some (.agg [.nilS, .nilS]) ∧ aload h 2 true (.ptr 1 0 0 0) = some (.agg [.nilS, .nilS]) :=
 ⟨st_full (b := true) e rfl rfl rfl rfl, ld_full (b := true) (get_set_eq e) rfl, ld_full (b := true) e rfl⟩
theorem run_Back (hp : PackV p cs) (kA : RtOk p.a) (kG : RtOk p.g) (hn : p.n ≤ 1500) :
  (backOk p → ∃ (raw av gv : AV) (c : Bool) (h' : AHeap), runFn (lim G0.cfg) 5000 A_pack_Back [.agg cs] [] = some (raw, h') ∧ freeze h' 1000 raw = some (.tup [.agg [av, gv], .int .i64 0], c) ∧ LiG (LiG LiA) (tabB p).acts av ∧ LiR (tabB p).gotos gv) ∧
  (¬ backOk p → ∃ (h' : AHeap), runFn (lim G0.cfg) 5000 A_pack_Back [.agg cs] [] = some (.tup [.agg [.nilS, .nilS], .int .i64 34], h')) := by
 obtain ⟨p1, p2, p3⟩ := hp.cells
 have bx := box_full [] p3 p1
 obtain ⟨ca, cg, hcs, hA, hG⟩ := hp
 obtain ⟨X, hX⟩ : ∃ X, X = AObj.arr 0 10 true [cs] := ⟨_, rfl⟩
 obtain ⟨Y, hY⟩ : ∃ Y, Y = AObj.arr 0 2 true [[AV.nilS, .nilS]] := ⟨_, rfl⟩
 have e0 : ∀ l : AHeap, (X :: l)[0]? = some (.arr 0 10 true [[.int .i64 p.tms, .int .i64 p.nts] ++ ca ++ cg]) := fun l => by rw [hX, hcs]; rfl
 have f0 : afill [.nilS, .nilS] [] = some (.agg [.nilS, .nilS]) := rfl
 have ldt : aload [X, Y] 1 false (.ptr 0 0 0 0) = some (.int .i64 p.tms) := (back_box hA hG _ (e0 [Y])).2.2.1
 have ldn : aload [X, Y] 1 false (.ptr 0 0 0 1) = some (.int .i64 p.nts) := (back_box hA hG _ (e0 [Y])).2.2.2
 have lrow : ∃ w1 w2, aload [X, Y] 1 false (.ptr 0 0 0 2) = some w1 ∧ Li p.a.row w1 ∧ aload [X, Y] 1 false (.ptr 0 0 0 6) = some w2 ∧ Li p.g.row w2 := by
  have E := e0 [Y]
  obtain ⟨a1, a2, a3, a4, ra, q1, _, _, _⟩ := hA
  obtain ⟨b1, b2, b3, b4, rg, q2, _, _, _⟩ := hG
  rw [ra, rg] at E
  exact ⟨a1, b1, by rw [ld_p _ 1 0 0 0 2 false 10 true _ _ E rfl]; rfl, q1, by rw [ld_p _ 1 0 0 0 6 false 10 true _ _ E rfl]; rfl, q2⟩
 obtain ⟨w1, w2, l1, q1, l2, q2⟩ := lrow
 have n1 := q1.len
 have n2 := q2.len
 obtain ⟨n, hnn⟩ : ∃ n, n = p.n := ⟨_, rfl⟩
 have hn0 : p.a.row.length = n := hnn.symm
 rw [hn0] at n1
 rw [← hnn] at hn
 obtain ⟨z1, z2, z3⟩ := zero_2 [X, Y] [] (by rw [hY]; rfl)
 have zs : ([X, Y] : AHeap).set 1 (.arr 0 2 true [[.nilS, .nilS]]) = [X, Y] := by rw [hY]; rfl
 rw [zs] at z1 z2
 rw [R_pack_Back]
 by_cases c1 : p.tms < 2
 case pos =>
  refine ⟨fun k => by have := k.1.1; omega, fun _ => ⟨[X, Y], ?_⟩⟩
  simp only [Zab,Zac,Zad,Zai,Zaj,Zak,Zam,Zar,Zay,Zaz,Zba,Zbd,Zbg,Zbi,Zbj,Zbk,Zbl,Zbm,Zbn,Zbo,Zbp,Zbq,Zby,Zcg,Zcm,Zcs,Zcu,Zcv,Zcw,Zcx,Zcy,Q2,Q7,Q4,Q5,Z2,Zdh,Zdx,decide_true,Q1,Q0,if_true,Nat.reduceAdd,Nat.reduceSub,eq_self,Q1,Q0,Q8,Q9,Q6,Q3,p1,p3,eq_self,if_true,evp, ← hX, ← hY,l1,n1,ldt,c1,f0,z1,z2,resAll,resVals,resVal]
 case neg =>
 by_cases c2 : 256 < p.tms
 case pos =>
  refine ⟨fun k => by have := k.1.2.1; omega, fun _ => ⟨[X, Y], ?_⟩⟩
  simp only [Zab,Zac,Zad,Zai,Zaj,Zak,Zam,Zar,Zay,Zaz,Zba,Zbc,Zbd,Zbg,Zbh,Zbi,Zbj,Zbk,Zbl,Zbm,Zbn,Zbo,Zbp,Zbq,Zby,Zcg,Zcm,Zcs,Zcu,Zcv,Zcw,Zcx,Zcy,Q2,Q7,Q4,Q5,Z2,Zdh,Zdj,Zdx,decide_true,decide_false,Q1,Q0,if_true,Nat.reduceAdd,Nat.reduceSub,eq_self,Q1,Q0,Q8,Q9,Q6,Q3,p1,p3,eq_self,if_true,evp, ← hX, ← hY,l1,n1,ldt,c1,c2,f0,z1,z2,resAll,resVals,resVal]
 case neg =>
 by_cases c3 : p.nts < 1
 case pos =>
  refine ⟨fun k => by have := k.1.2.2.1; omega, fun _ => ⟨[X, Y], ?_⟩⟩
  simp only [Zab,Zac,Zad,Zai,Zaj,Zak,Zam,Zar,Zay,Zaz,Zba,Zbc,Zbd,Zbg,Zbh,Zbi,Zbj,Zbk,Zbl,Zbm,Zbn,Zbo,Zbp,Zbq,Zby,Zcg,Zcm,Zcs,Zcu,Zcv,Zcw,Zcx,Zcy,Q2,Q7,Q4,Q5,Z2,Zdh,Zdj,Zdx,decide_true,decide_false,Q1,Q0,if_true,Nat.reduceAdd,Nat.reduceSub,eq_self,Q1,Q0,Q8,Q9,Q6,Q3,p1,p3,eq_self,if_true,evp, ← hX, ← hY,l1,n1,ldt,ldn,c1,c2,c3,f0,z1,z2,resAll,resVals,resVal]
 case neg =>
 by_cases c4 : 512 < p.nts
 case pos =>
  refine ⟨fun k => by have := k.1.2.2.2.1; omega, fun _ => ⟨[X, Y], ?_⟩⟩
  simp only [Zab,Zac,Zad,Zai,Zaj,Zak,Zam,Zar,Zay,Zaz,Zba,Zbc,Zbd,Zbg,Zbh,Zbi,Zbj,Zbk,Zbl,Zbm,Zbn,Zbo,Zbp,Zbq,Zby,Zcg,Zcm,Zcs,Zcu,Zcv,Zcw,Zcx,Zcy,Q2,Q7,Q4,Q5,Z2,Zdh,Zdj,Zdx,decide_true,decide_false,Q1,Q0,if_true,Nat.reduceAdd,Nat.reduceSub,eq_self,Q1,Q0,Q8,Q9,Q6,Q3,p1,p3,eq_self,if_true,evp, ← hX, ← hY,l1,n1,ldt,ldn,c1,c2,c3,c4,f0,z1,z2,resAll,resVals,resVal]
 case neg =>
 by_cases c5 : (n : Int) < 1
 case pos =>
  refine ⟨fun k => by have := k.1.2.2.2.2.1; omega, fun _ => ⟨[X, Y], ?_⟩⟩
  simp only [Zab,Zac,Zad,Zai,Zaj,Zak,Zam,Zar,Zay,Zaz,Zba,Zbc,Zbd,Zbg,Zbh,Zbi,Zbj,Zbk,Zbl,Zbm,Zbn,Zbo,Zbp,Zbq,Zby,Zcg,Zcm,Zcs,Zcu,Zcv,Zcw,Zcx,Zcy,Q2,Q7,Q4,Q5,Z2,Zdh,Zdj,Zdx,decide_true,decide_false,Q1,Q0,if_true,Nat.reduceAdd,Nat.reduceSub,eq_self,Q1,Q0,Q8,Q9,Q6,Q3,p1,p3,eq_self,if_true,evp, ← hX, ← hY,l1,n1,ldt,ldn,c1,c2,c3,c4,c5,f0,z1,z2,resAll,resVals,resVal]
 case neg =>
 have c6 : ¬ (4096 : Int) < n := by omega
 by_cases c7 : p.g.row.length = n
 case neg =>
  have d7 : decide ((p.g.row.length : Int) = n) = false := decide_eq_false (by omega)
  refine ⟨fun k => by have := k.1.2.2.2.2.2.2; omega, fun _ => ⟨[X, Y], ?_⟩⟩
  simp only [Zab,Zac,Zad,Zai,Zaj,Zak,Zam,Zar,Zay,Zaz,Zba,Zbc,Zbh,Zbi,Zbj,Zbk,Zbl,Zbm,Zbn,Zbo,Zbp,Zbq,Zby,Zcg,Zcm,Zcs,Zcu,Zcv,Zcw,Zcx,Zcy,Q2,Q7,Q4,Q5,Z2,Zdh,Zdj,Zdm,Zdx,decide_false,Z8,Q1,Q0,if_true,Nat.reduceAdd,Nat.reduceSub,eq_self,Q1,Q0,Q8,Q9,Q6,Q3,p1,p3,eq_self,if_true,evp, ← hX, ← hY,l1,l2,n1,n2,ldt,ldn,c1,c2,c3,c4,c5,c6,d7,f0,z1,z2,resAll,resVals,resVal]
 case pos =>
 have d7 : decide ((p.g.row.length : Int) = n) = true := decide_eq_true (by omega)
 have fr : frameB p := ⟨by omega, by omega, by omega, by omega, by omega, by omega, by omega⟩
 have tmE : p.tms = (p.tm : Int) := by unfold PackD.tm; omega
 have ntE : p.nts = (p.nt : Int) := by unfold PackD.nt; omega
 have r0 : Ren ([X, Y, Y] : AHeap).length [X, Y, Y] := by
  intro i j hi hj
  have ry : renO i j Y = Y := by rw [hY]; rfl
  have rx : renO i j X = X := by
   rw [hX, hcs]
   obtain ⟨a1, a2, a3, a4, rfl, q1, q2, q3, q4⟩ := hA
   obtain ⟨b1, b2, b3, b4, rfl, q5, q6, q7, q8⟩ := hG
   have li : ∀ (l : List Int) (v : AV), Li l v → renV i j v = v := fun l v h => by
    rcases h with ⟨_, rfl⟩ | ⟨e, rfl⟩ <;> simp [renV]
   have ri : ∀ n : Int, renV i j (.int .i64 n) = .int .i64 n := fun n => by simp [renV]
   simp only [renO,List.map_cons,List.map_nil,Q6,Q3,renVs,ri,li _ _ q1,li _ _ q2,li _ _ q3,li _ _ q4,li _ _ q5,li _ _ q6,li _ _ q7,li _ _ q8]
  simp only [List.map_cons,List.map_nil,rx,ry]
 obtain ⟨k1, k2⟩ := back_0 hA hG kA kG p.tm p.nt n 5000 tmE ntE (by omega) (by omega) (by omega) (by omega) n 0 5000 [] [] [X, Y, Y] .nilS .nilS [] [] none none (fun _ => False) (by omega) (by omega) (e0 [Y, Y]) (by rw [hY]; rfl) (by rw [hY]; rfl) (OwnG.nil 1 _) (Nest.nil _ _ _) (OwnG.nil 1 _) (Nest.nil _ _ _) (fun _ e => e.elim) (fun _ e => by cases e) (fun _ e => by cases e) (fun _ e => by cases e) rfl rfl r0
 rw [z0] at k1 k2
 rw [Q3, Q3] at k1
 by_cases c8 : okAll p p.tm 0 n = true
 case neg =>
  obtain ⟨h', e, e1⟩ := k2 (by simpa using c8)
  have z4 := (zero_2 h' [] e1).2.2
  refine ⟨fun k => absurd (hnn ▸ k.2.1) c8, fun _ => ⟨h', ?_⟩⟩
  simp only [Zaa,Zab,Zac,Zad,Zae,Zaf,Zag,Zaj,Zak,Zam,Zao,Zas,Zat,Zay,Zaz,Zbc,Zbh,Zbi,Zbj,Zbk,Zbl,Zbm,Zbn,Zbo,Zbq,Zby,Zcg,Zcs,Zcu,Zcv,Zcw,Zcx,Zdb,Zdc,Zdd,Q2,Q7,Q4,Q5,Z2,Zdh,Zdj,Zdm,Zdx,decide_false,Z4,Q1,Q0,if_true,Nat.reduceAdd,Nat.reduceSub,eq_self,Q1,Q0,Q8,Q9,Q6,Q3,p1,p3,eq_self,if_true,← hX, ← hY,l1,l2,n1,n2,ldt,ldn,c1,c2,c3,c4,c5,c6,d7,e,z4,resAll,resVals,resVal]
 case pos =>
 obtain ⟨h', wA, wG, csA, csG, qA, qG, S, e, g0, g1, g2, oA, nA, oG, nG, hS, hqA, hqG⟩ := k1 c8
 have eA : (tabB p).acts = actsB p p.tm 0 n := by rw [hnn]; rfl
 have eG : (tabB p).gotos = gotosB p p.nt 0 n := by rw [hnn]; rfl
 rw [← eA] at nA
 rw [← eG] at nG
 obtain ⟨av, ba, fa, ga⟩ := nA.fzA oA 996
 obtain ⟨gv, bg, fg, gg⟩ := nG.fz oG 996
 have fz : freeze h' 1000 (.agg [wA, wG]) = some (.agg [av, gv], ba && (bg && true)) := fz_agg2 fa fg
 have cc : cellsOf (.agg [wA, wG]) = [wA, wG] := by simp [cellsOf]
 have ck : [wA, wG].all cellOk = true := by simp only [List.all_cons,List.all_nil,oA.cell.2,oG.cell.2,Bool.and_self]
 have tl := (tabB_len p).1
 obtain ⟨o1, o2⟩ := f_Of (h := h') ga gg (fun _ => by omega) fz cc
 have lt5 : aload h' 2 true (.ptr 2 0 0 0) = some (.agg [wA, wG]) := ld_full (b := true) g2 rfl
 have zz : [AV.int .i64 0, .int .i64 0, .nilS, .nilS, .nilS, .nilS, .nilS, .nilS, .nilS, .nilS] = zeroP := rfl
 have zl : zeroP.length = 10 := rfl
 -- behind the call
 have tail : ∀ (K : AHeap) (q : PackD) (qs : List AV) (hq : PackV q qs), (∀ (i : Nat) (o : AObj), h'[i]? = some o → K[i]? = some o) →
   ∃ Z : AHeap, astore (K ++ [.arr 0 10 true [zeroP]]) 10 (.ptr K.length 0 0 0) (.agg qs) = some Z ∧ aload Z 1 false (.ptr K.length 0 0 0) = some (.int .i64 q.tms) ∧ aload Z 1 false (.ptr K.length 0 0 1) = some (.int .i64 q.nts) ∧ (∃ qa, RT q.a qa ∧ aload Z 4 true (.ptr K.length 0 0 2) = some (.agg qa)) ∧ (∃ qg, RT q.g qg ∧ aload Z 4 true (.ptr K.length 0 0 6) = some (.agg qg)) ∧
    aload Z 1 false (.ptr 0 0 0 0) = some (.int .i64 p.tms) ∧ aload Z 1 false (.ptr 0 0 0 1) = some (.int .i64 p.nts) ∧ aload Z 4 true (.ptr 0 0 0 2) = some (.agg ca) ∧ aload Z 4 true (.ptr 0 0 0 6) = some (.agg cg) ∧
    Z[1]? = some (.arr 0 2 true [[.nilS, .nilS]]) ∧ aload Z 2 true (.ptr 2 0 0 0) = some (.agg [wA, wG]) ∧ (∀ (i : Nat) (o : AObj), h'[i]? = some o → Z[i]? = some o) := by
  intro K q qs hq up
  obtain ⟨u1, u2, u3⟩ := hq.cells
  have s := st_full (h := K ++ [.arr 0 10 true [zeroP]]) (i := K.length) (ver := 0) (n := 10) (b := true) (z := zeroP) (l := qs) (get_new _ _) rfl u3 u1 u2
  rw [set_new] at s
  obtain ⟨Z, hZ⟩ : ∃ Z : AHeap, Z = K ++ [.arr 0 10 true [qs]] := ⟨_, rfl⟩
  rw [← hZ] at s
  have gq : Z[K.length]? = some (.arr 0 10 true [qs]) := by rw [hZ]; exact get_new _ _
  have upZ : ∀ (i : Nat) (o : AObj), h'[i]? = some o → Z[i]? = some o := fun i o e => by rw [hZ]; exact get_app (up i o e) _
  obtain ⟨b1, b2, b3, b4⟩ := back_box hA hG Z (upZ 0 _ g0)
  obtain ⟨qa, qg, rfl, ra, rg⟩ := hq
  refine ⟨Z, s, ?_, ?_, ⟨qa, ra, ?_⟩, ⟨qg, rg, ?_⟩, b3, b4, b1, b2, upZ 1 _ g1, ld_full (b := true) (upZ 2 _ g2) rfl, upZ⟩
  ·rw [ld_p Z 1 K.length 0 0 0 false 10 true _ _ gq rfl]; rfl
  ·rw [ld_p Z 1 K.length 0 0 1 false 10 true _ _ gq rfl]; rfl
  ·obtain ⟨a1, a2, a3, a4, rfl, _⟩ := ra
   obtain ⟨b1, b2, b3, b4, rfl, _⟩ := rg
   rw [ld_p Z 4 K.length 0 0 2 true 10 true _ _ gq rfl]; rfl
  ·obtain ⟨a1, a2, a3, a4, rfl, _⟩ := ra
   obtain ⟨b1, b2, b3, b4, rfl, _⟩ := rg
   rw [ld_p Z 4 K.length 0 0 6 true 10 true _ _ gq rfl]; rfl
 by_cases c9 : (tabB p).ok
 case neg =>
  obtain ⟨h'', eo⟩ := o2 c9
  obtain ⟨Z, s, t1, t2, _, _, t3, t4, t5, t6, t7, t8, t9⟩ := tail (h' ++ h'') packZ zeroP packZ_v (fun i o e => get_app e _)
  obtain ⟨y1, y2, _⟩ := zero_2 Z [] t7
  rw [← hY] at y1 y2
  have d34 : decide ((34 : Int) = 0) = false := rfl
  refine ⟨fun k => absurd k.2.2.1 c9, fun _ => ⟨Z.set 1 Y, ?_⟩⟩
  simp only [Zaa,Zab,Zac,Zad,Zae,Zaf,Zag,Zai,Zaj,Zak,Zam,Zap,Zar,Zas,Zat,Zay,Zaz,Zba,Zbc,Zbd,Zbg,Zbh,Zbi,Zbj,Zbk,Zbl,Zbm,Zbn,Zbo,Zbp,Zbq,Zby,Zcf,Zcg,Zcm,Zcp,Zcq,Zcs,Zcu,Zcv,Zcw,Zcx,Zcy,Zcz,Zda,Zdb,Zdc,Zdd,Q2,Q7,Q4,Q5,Z2,Zdh,Zdj,Zdm,Zdx,Zem,decide_false,Z4,Z8,Z0,Z1,Q1,Q0,if_true,Nat.reduceAdd,Nat.reduceSub,Int.reduceEq,eq_self,Q1,Q0,Q8,Q9,Q6,Q3,p1,p3,eq_self,if_true,evp, ← hX, ← hY,l1,l2,n1,n2,ldt,ldn,c1,c2,c3,c4,c5,c6,d7,e,lt5,eo,zz,zl,s,f0,y1,y2,resAll,resVals,resVal]
 case pos =>
 obtain ⟨qs, h'', hq, eo⟩ := o1 c9
 obtain ⟨Z, s, t1, t2, ⟨qa, ra, t10⟩, ⟨qg, rg, t11⟩, t3, t4, t5, t6, t7, t8, t9⟩ := tail (h' ++ h'') (packD (tabB p)) qs hq (fun i o e => get_app e _)
 obtain ⟨y1, y2, _⟩ := zero_2 Z [] t7
 rw [← hY] at y1 y2
 obtain ⟨sm1, sm2⟩ := packD_smallB c9 (by omega)
 have q3 := f_equal ra hA sm1.1 sm1.2.1 sm1.2.2.1 sm1.2.2.2
 have q4 := f_equal rg hG sm2.1 sm2.2.1 sm2.2.2.1 sm2.2.2.2
 have d0 : decide ((0 : Int) = 0) = true := rfl
 by_cases x1 : (packD (tabB p)).tms = p.tms
 case neg =>
  have dx : decide ((packD (tabB p)).tms = p.tms) = false := decide_eq_false x1
  refine ⟨fun k => absurd (congrArg PackD.tms k.2.2.2) x1, fun _ => ⟨Z.set 1 Y, ?_⟩⟩
  simp only [Zaa,Zab,Zac,Zad,Zae,Zaf,Zag,Zai,Zaj,Zak,Zam,Zap,Zar,Zas,Zat,Zay,Zaz,Zba,Zbc,Zbd,Zbg,Zbh,Zbi,Zbj,Zbk,Zbl,Zbm,Zbn,Zbo,Zbp,Zbq,Zby,Zcf,Zcg,Zcm,Zcp,Zcq,Zcs,Zcu,Zcv,Zcw,Zcx,Zcy,Zcz,Zda,Zdb,Zdc,Zdd,Q2,Q7,Q4,Q5,Z2,Zdh,Zdj,Zdm,Zdx,Zem,decide_true,decide_false,Z4,Z8,Z0,Z1,Q1,Q0,if_true,Nat.reduceAdd,Nat.reduceSub,eq_self,Q1,Q0,Q8,Q9,Q6,Q3,p1,p3,eq_self,if_true,evp, ← hX, ← hY,l1,l2,n1,n2,ldt,ldn,c1,c2,c3,c4,c5,c6,d7,e,lt5,eo,zz,zl,s,t1,t3,dx,f0,y1,y2,resAll,resVals,resVal]
 case pos =>
 have dx1 : decide ((packD (tabB p)).tms = p.tms) = true := decide_eq_true x1
 by_cases x2 : (packD (tabB p)).nts = p.nts
 case neg =>
  have dx : decide ((packD (tabB p)).nts = p.nts) = false := decide_eq_false x2
  refine ⟨fun k => absurd (congrArg PackD.nts k.2.2.2) x2, fun _ => ⟨Z.set 1 Y, ?_⟩⟩
  simp only [Zaa,Zab,Zac,Zad,Zae,Zaf,Zag,Zai,Zaj,Zak,Zam,Zap,Zar,Zas,Zat,Zay,Zaz,Zba,Zbc,Zbd,Zbg,Zbh,Zbi,Zbj,Zbk,Zbl,Zbm,Zbn,Zbo,Zbp,Zbq,Zby,Zcf,Zcg,Zcm,Zcp,Zcq,Zcs,Zcu,Zcv,Zcw,Zcx,Zcy,Zcz,Zda,Zdb,Zdc,Zdd,Q2,Q7,Q4,Q5,Z2,Zdh,Zdj,Zdm,Zdx,Zem,decide_true,decide_false,Z4,Z8,Z0,Z1,Q1,Q0,if_true,Nat.reduceAdd,Nat.reduceSub,eq_self,Q1,Q0,Q8,Q9,Q6,Q3,p1,p3,eq_self,if_true,evp, ← hX, ← hY,l1,l2,n1,n2,ldt,ldn,c1,c2,c3,c4,c5,c6,d7,e,lt5,eo,zz,zl,s,t1,t2,t3,t4,dx1,dx,f0,y1,y2,resAll,resVals,resVal]
 case pos =>
 have dx2 : decide ((packD (tabB p)).nts = p.nts) = true := decide_eq_true x2
 by_cases x3 : eqR (packD (tabB p)).a p.a = true
 case neg =>
  have dx : eqR (packD (tabB p)).a p.a = false := by simpa using x3
  rw [dx] at q3
  refine ⟨fun k => absurd ((eqR_iff _ _).2 (congrArg PackD.a k.2.2.2)) x3, fun _ => ⟨Z.set 1 Y, ?_⟩⟩
  simp only [Zaa,Zab,Zac,Zad,Zae,Zaf,Zag,Zai,Zaj,Zak,Zam,Zap,Zar,Zas,Zat,Zay,Zaz,Zba,Zbc,Zbd,Zbg,Zbh,Zbi,Zbj,Zbk,Zbl,Zbm,Zbn,Zbo,Zbp,Zbq,Zbr,Zby,Zcf,Zcg,Zcm,Zcp,Zcq,Zcs,Zcu,Zcv,Zcw,Zcx,Zcy,Zcz,Zda,Zdb,Zdc,Zdd,Q2,Q7,Q4,Q5,Z2,Zdh,Zdj,Zdm,Zdr,Zdx,Zem,decide_true,decide_false,Z4,Z8,Z0,Z1,Q1,Q0,if_true,Nat.reduceAdd,Nat.reduceSub,eq_self,Q1,Q0,Q8,Q9,Q6,Q3,p1,p3,eq_self,if_true,evp, ← hX, ← hY,l1,l2,n1,n2,ldt,ldn,c1,c2,c3,c4,c5,c6,d7,e,lt5,eo,zz,zl,s,t1,t2,t3,t4,dx1,dx2,t10,t5,q3,f0,y1,y2,resAll,resVals,resVal]
 case pos =>
 rw [x3] at q3
 by_cases x4 : eqR (packD (tabB p)).g p.g = true
 case neg =>
  have dx : eqR (packD (tabB p)).g p.g = false := by simpa using x4
  rw [dx] at q4
  refine ⟨fun k => absurd ((eqR_iff _ _).2 (congrArg PackD.g k.2.2.2)) x4, fun _ => ⟨Z.set 1 Y, ?_⟩⟩
  simp only [Zaa,Zab,Zac,Zad,Zae,Zaf,Zag,Zai,Zaj,Zak,Zam,Zap,Zar,Zas,Zat,Zay,Zaz,Zba,Zbc,Zbh,Zbi,Zbj,Zbk,Zbl,Zbm,Zbn,Zbo,Zbp,Zbq,Zbr,Zby,Zcf,Zcg,Zcm,Zcp,Zcq,Zcs,Zcu,Zcv,Zcw,Zcx,Zcy,Zcz,Zda,Zdb,Zdc,Zdd,Q2,Q7,Q4,Q5,Z2,Zdh,Zdj,Zdm,Zdr,Zdx,Zem,decide_true,decide_false,Z4,Z8,Z0,Z1,Q1,Q0,if_true,Nat.reduceAdd,Nat.reduceSub,eq_self,Q1,Q0,Q8,Q9,Q6,Q3,p1,p3,eq_self,if_true,evp, ← hX, ← hY,l1,l2,n1,n2,ldt,ldn,c1,c2,c3,c4,c5,c6,d7,e,lt5,eo,zz,zl,s,t1,t2,t3,t4,dx1,dx2,t10,t5,q3,t11,t6,q4,f0,y1,y2,resAll,resVals,resVal]
 case pos =>
 rw [x4] at q4
 have eP : packD (tabB p) = p := by
  have h1 := (eqR_iff _ _).1 x3
  have h2 := (eqR_iff _ _).1 x4
  cases hh : packD (tabB p) with
  | mk a1 a2 a3 a4 =>
   rw [hh] at x1 x2 h1 h2
   simp only at x1 x2 h1 h2
   subst x1; subst x2; subst h1; subst h2
   rfl
 have bk : backOk p := ⟨fr, hnn ▸ c8, c9, eP⟩
 have y3 : astore Z 2 (.ptr 1 0 0 0) (.agg [wA, wG]) = some (Z.set 1 (.arr 0 2 true [[wA, wG]])) := st_full (b := true) t7 rfl rfl cc ck
 have y4 : aload (Z.set 1 (.arr 0 2 true [[wA, wG]])) 2 true (.ptr 1 0 0 0) = some (.agg [wA, wG]) := ld_full (b := true) (get_set_eq t7) rfl
 obtain ⟨F, hF⟩ : ∃ F, F = Z.set 1 (.arr 0 2 true [[wA, wG]]) := ⟨_, rfl⟩
 rw [← hF] at y3 y4
 have upF : ∀ (i : Nat) (o : AObj), 3 ≤ i → h'[i]? = some o → F[i]? = some o := fun i o hi e => by rw [hF]; exact get_set_ne (t9 i o e) (by omega)
 obtain ⟨av2, ba2, fa2, ga2⟩ := (nA.frame (h' := F) (fun i o k e => upF i o (hS i k) e)).fzA (oA.frame (h' := F) (fun i o k e => upF i o (hqA i k) e)) 995
 obtain ⟨gv2, bg2, fg2, gg2⟩ := (nG.frame (h' := F) (fun i o k e => upF i o (hS i k) e)).fz (oG.frame (h' := F) (fun i o k e => upF i o (hqG i k) e)) 995
 have fz2 := fz_tup2 (k := 999) (fz_agg2 (k := 998) fa2 fg2) (rfl : freeze F 999 (.int .i64 0) = some (.int .i64 0, true))
 refine ⟨fun _ => ⟨.tup [.agg [wA, wG], .int .i64 0], av2, gv2, _, F, ?_, fz2, ga2, gg2⟩, fun k => absurd bk k⟩
 simp only [Zaa,Zab,Zac,Zad,Zae,Zaf,Zag,Zai,Zaj,Zak,Zap,Zas,Zat,Zay,Zaz,Zba,Zbc,Zbh,Zbi,Zbj,Zbk,Zbl,Zbm,Zbn,Zbo,Zbp,Zbq,Zbr,Zby,Zcf,Zcg,Zcp,Zcq,Zcs,Zcu,Zcv,Zcw,Zcx,Zcy,Zcz,Zda,Zdb,Zdc,Zdd,Q2,Q7,Q4,Q5,Z2,Zdh,Zdj,Zdm,Zdr,Zdx,Zem,decide_true,decide_false,Z4,Z0,Z1,Q1,Q0,if_true,Nat.reduceAdd,Nat.reduceSub,eq_self,Q1,Q0,Q8,Q9,Q6,Q3,p1,p3,eq_self,if_true,← hX, ← hY,l1,l2,n1,n2,ldt,ldn,c1,c2,c3,c4,c5,c6,d7,e,lt5,eo,zz,zl,s,t1,t2,t3,t4,dx1,dx2,t10,t5,q3,t11,t6,q4,t8,y3,y4,resAll,resVals,resVal]
end
end Go.Proofs.Ytkgndbhflehhhaa.Ai
namespace Go.Proofs.Ytkgndbhflehhhaa.Ai
open Go Go.Proofs
open AV renaming junk → J
open List renaming length_nil → Q0, length_cons → Q1, set_cons_zero → Q2, nil_append → Q3, getD_cons_zero → Q4, getD_cons_succ → Q5, cons_append → Q6, set_cons_succ → Q7, replicate_succ → Q8, replicate_zero → Q9, getElem?_cons_zero → Z0, getElem?_cons_succ → Z1, take_succ_cons → Z6, drop_succ_cons → Z9, drop_zero → Y0, take_zero → Y1, getElem_mem → Y3
open Option renaming map_some → Z2, bind_some → Z7
open Option.some renaming injEq → Z3
open Bool renaming not_true → Z4, false_and → Z5, not_false → Z8, and_false → Y4
open Nat renaming zero_add → Y2
set_option linter.unusedVariables false
set_option linter.unusedSimpArgs false
set_option maxRecDepth 10000
set_option maxHeartbeats 4000000
section
variable {p : PackD} {cs : List AV}
theorem f_Back (hp : PackV p cs) (kA : RtOk p.a) (kG : RtOk p.g) (hn : p.n ≤ 1500) :
  (backOk p → ∃ (av gv : AV), LiG (LiG LiA) (tabB p).acts av ∧ LiR (tabB p).gotos gv ∧ ∀ H, lim G0.cfg (.func 22) [.agg cs] H = some (.tup [.agg [av, gv], .int .i64 0], H)) ∧
  (¬ backOk p → ∀ H, lim G0.cfg (.func 22) [.agg cs] H = some (.tup [.agg [.nilS, .nilS], .int .i64 34], H)) := by
 obtain ⟨k1, k2⟩ := run_Back hp kA kG hn
 refine ⟨fun k => ?_, fun k H => ?_⟩
 ·obtain ⟨raw, av, gv, c, h', r, f, g1, g2⟩ := k1 k
  exact ⟨av, gv, g1, g2, fun H => lim_at rfl rfl P_pack_Back 5000 (fun h => fz_1 (hp.fz h 998)) r f H⟩
 ·obtain ⟨h', r⟩ := k2 k
  exact lim_at rfl rfl P_pack_Back 5000 (fun h => fz_1 (hp.fz h 998)) r (rfl : freeze h' 1000 (.tup [.agg [.nilS, .nilS], .int .i64 34]) = some (.tup [.agg [.nilS, .nilS], .int .i64 34], true)) H
theorem f_Right (hp : PackV p cs) (kA : RtOk p.a) (kG : RtOk p.g) (hn : p.n ≤ 1500) :
  (backOk p → ∀ H, lim G0.cfg (.func 25) [.agg cs] H = some (.bool true, H)) ∧ (¬ backOk p → ∀ H, lim G0.cfg (.func 25) [.agg cs] H = some (.bool false, H)) := by
 obtain ⟨k1, k2⟩ := f_Back hp kA kG hn
 obtain ⟨p1, p2, p3⟩ := hp.cells
 obtain ⟨X, hX⟩ : ∃ X, X = AObj.arr 0 10 true [cs] := ⟨_, rfl⟩
 have lX : aload [X] 10 true (.ptr 0 0 0 0) = some (.agg cs) := ld_full (b := true) (by rw [hX]; rfl) p3
 refine ⟨fun k H => ?_, fun k H => ?_⟩
 ·obtain ⟨av, gv, g1, g2, e⟩ := k1 k
  have d0 : decide ((0 : Int) = 0) = true := rfl
  have st : astore [X, .arr 0 2 true [[.nilS, .nilS]]] 2 (.ptr 1 0 0 0) (.agg [av, gv]) = some [X, .arr 0 2 true [[av, gv]]] := st_full (h := [X, .arr 0 2 true [[.nilS, .nilS]]]) (i := 1) (b := true) (z := [.nilS, .nilS]) rfl rfl rfl (by simp [cellsOf]) (by simp only [List.all_cons,List.all_nil,g1.cell.2,g2.cell.2,Bool.and_self])
  refine lim_flat rfl rfl P_pack_Right 1 (fun h => fz_1 (hp.fz h 998)) ?_ (fun _ => rfl) H
  rw [R_pack_Right]
  simp only [Zab,Zac,Zai,Zaj,Zak,Zay,Zaz,Zba,Zbi,Zbk,Zbm,Zbn,Zbo,Zbp,Zbq,Zcf,Zcp,Zcq,Zcs,Zcu,Zcv,Zcw,Zcx,Zcy,Zcz,Zda,Q2,Q7,Q4,Q5,Z2,Zdl,Zem,decide_true,Z0,Z1,Q1,Q0,if_true,Nat.reduceAdd,Nat.reduceSub,eq_self,true_and,Q1,Q0,Q8,Q9,Q6,Q3,p1,p3,eq_self,if_true, ← hX,lX,e,st,resAll,resVals,resVal,Z3,Prod.mk.injEq,true_and,exists_eq']
 ·have e := k2 k
  have d0 : decide ((34 : Int) = 0) = false := rfl
  have st : astore [X, .arr 0 2 true [[.nilS, .nilS]]] 2 (.ptr 1 0 0 0) (.agg [.nilS, .nilS]) = some [X, .arr 0 2 true [[.nilS, .nilS]]] := st_full (h := [X, .arr 0 2 true [[.nilS, .nilS]]]) (i := 1) (b := true) (z := [.nilS, .nilS]) rfl rfl rfl rfl rfl
  refine lim_flat rfl rfl P_pack_Right 1 (fun h => fz_1 (hp.fz h 998)) ?_ (fun _ => rfl) H
  rw [R_pack_Right]
  simp only [Zab,Zac,Zai,Zaj,Zak,Zay,Zaz,Zba,Zbi,Zbk,Zbm,Zbn,Zbo,Zbp,Zbq,Zcf,Zcp,Zcq,Zcs,Zcu,Zcv,Zcw,Zcx,Zcy,Zcz,Zda,Q2,Q7,Q4,Q5,Z2,Zdl,Zem,decide_false,Z0,Z1,Q1,Q0,if_true,Nat.reduceAdd,Nat.reduceSub,Int.reduceEq,eq_self,true_and,Q1,Q0,Q8,Q9,Q6,Q3,p1,p3,eq_self,if_true, ← hX,lX,e,st,resAll,resVals,resVal,Z3,Prod.mk.injEq,true_and,exists_eq']
end
section
variable {t : TabD} {av gv av' gv' : AV}
theorem r_SameTable (ha : LiG (LiG LiA) t.acts av) (hg : LiR t.gotos gv) (ha' : LiG (LiG LiA) t.acts av') (hg' : LiR t.gotos gv') (hn : t.acts.length ≤ 5000) (hn' : t.gotos.length ≤ 5000) (hr : ∀ r ∈ t.acts, r.length ≤ 5000) (hc : ∀ r ∈ t.acts, ∀ c ∈ r, c.length ≤ 1000) (hgr : ∀ r ∈ t.gotos, r.length ≤ 1000000000) (H : AHeap) :
  lim G0.cfg (.func 24) [.agg [av, gv], .agg [av', gv']] H = some (.bool true, H) := by
 have fzs : ∀ h, mapO (freeze h 1000) [.agg [av, gv], .agg [av', gv']] = some ([AV.agg [av, gv], .agg [av', gv']].map fun x => (x, true)) := fun h => fz_2 (fz_agg2 (k := 999) (ha.fz h 998) (hg.fz h 998)) (fz_agg2 (k := 999) (ha'.fz h 998) (hg'.fz h 998))
 refine lim_flat rfl rfl P_r32_SameTable 6000 fzs ?_ (fun _ => rfl) H
 have ca : cellsOf (.agg [av, gv]) = [av, gv] := by simp [cellsOf]
 have cb : cellsOf (.agg [av', gv']) = [av', gv'] := by simp [cellsOf]
 obtain ⟨h, hh⟩ : ∃ h : AHeap, h = [.arr 0 2 true [[av, gv]], .arr 0 2 true [[av', gv']]] := ⟨_, rfl⟩
 have l0 : aload h 1 false (.ptr 0 0 0 0) = some av := by rw [hh]; exact tab_a _ rfl
 have l1 : aload h 1 false (.ptr 0 0 0 1) = some gv := by rw [hh]; exact tab_g _ rfl
 have m0 : aload h 1 false (.ptr 1 0 0 0) = some av' := by rw [hh, ld_p _ 1 1 0 0 0 false 2 true _ [av', gv'] rfl rfl]; rfl
 have m1 : aload h 1 false (.ptr 1 0 0 1) = some gv' := by rw [hh, ld_p _ 1 1 0 0 1 false 2 true _ [av', gv'] rfl rfl]; rfl
 have na := ha.len
 have na' := ha'.len
 have ng := hg.len
 have ng' := hg'.len
 have l2 : ∀ (h : AHeap) (a b : AV), aload h 2 true (.vptr [a, b] 0) = some (.agg [a, b]) := fun _ _ _ => rfl
 have ne2 : ∀ a b : Int, abin .neq (.struct [.int, .int]) (.agg [.int .i64 a, .int .i64 b]) (.agg [.int .i64 a, .int .i64 b]) = some (.bool false) := fun a b => by simp [abin, aeq, aeqs, aeq1]
 have in2 : ∀ (c : List (Int × Int)) (v w : AV) (hv : LiA c v) (hw : LiA c w) (hl : c.length ≤ 1000) (s k : Nat) (d i m : Nat), c.length = i + d → d < m → loopN (evalCode (lim G0.cfg) 6000 B_r32_SameTable_2) m ⟨(J::J::.ptr 0 0 0 0 :: .ptr 1 0 0 0::J::.int .i64 s :: .int .i64 k :: v :: w :: .int .i64 i::J::J::J::J::J::J::J::J::J::J::J::J::J::J::J::J::J::J::J::J::J::J::J::J::J::J::J::J::J::J::J::J::J::J::J::J::J::J::J::J::J::J::J::J::J::J::J::J::J::J::J::J::J::J::J::J::J::J::J::J::J::J::J::J::J::J::J::J::J::J::J::J::J::J::J::J::J::J::J::J::J::J::J::J::J::J::J::J::J::J::J::J::J::J::J::J::J::J::J::J::J::J::[]), h⟩ = some (.exit 4, ⟨(J::J::.ptr 0 0 0 0 :: .ptr 1 0 0 0::J::.int .i64 s :: .int .i64 k::J::J::J::J::J::J::J::J::J::J::J::J::J::J::J::J::J::J::J::J::J::J::J::J::J::J::J::J::J::J::J::J::J::J::J::J::J::J::J::J::J::J::J::J::J::J::J::J::J::J::J::J::J::J::J::J::J::J::J::J::J::J::J::J::J::J::J::J::J::J::J::J::J::J::J::J::J::J::J::J::J::J::J::J::J::J::J::J::J::J::J::J::J::J::J::J::J::J::J::J::J::J::J::J::J::[]), h⟩) := by
  intro c v w hv hw hl s k d
  have nv := hv.len
  induction d with
  | zero =>
   intro i m h1 h2
   obtain ⟨m, rfl⟩ : ∃ q, m = q + 1 := ⟨m - 1, by omega⟩
   have h3 : ¬ ((i : Int) < c.length) := by omega
   simp only [loop_e,EB_r32_SameTable_2,Zab,Zac,Zad,Zag,Zah,Zaj,Zak,Zal,Zas,Zav,Zay,Zbi,Zbk,Zbq,Zcg,Zcv,Zcx,Zdb,Zdc,Zdd,Q2,Q7,Q4,Q5,Zdh,decide_false,eq_self,nv,h3]
  | succ d ih =>
   intro i m h1 h2
   obtain ⟨m, rfl⟩ : ∃ q, m = q + 1 := ⟨m - 1, by omega⟩
   have h3 : i < c.length := by omega
   have h3' : (i : Int) < c.length := by omega
   have hwr := w64s (n := i) (by omega)
   have x1 := fun h => hv.ix h .i64 i h3
   have x2 := fun h => hw.ix h .i64 i h3
   simp only [eAct] at x1 x2
   rw [← ih (i + 1) m (by omega) (by omega)]
   simp only [loop_e,EB_r32_SameTable_2,Zaa,Zab,Zac,Zad,Zae,Zag,Zaj,Zak,Zan,Zar,Zas,Zau,Zay,Zbi,Zbk,Zbo,Zbq,Zcb,Zcg,Zcv,Zcw,Zcx,Zdb,Zdc,Zdd,Q2,Q7,Q4,Q5,Zde,Zdh,decide_true,eq_self,nv,h3',x1,x2,l2,ne2,hwr]
 have in1 : ∀ (s : Nat) (hs : s < t.acts.length) (d i m : Nat), t.acts[s].length = i + d → d < m → loopN (evalCode (lim G0.cfg) 6000 B_r32_SameTable_1) m ⟨(J::J::.ptr 0 0 0 0 :: .ptr 1 0 0 0::J::.int .i64 s :: .int .i64 i::J::J::J::J::J::J::J::J::J::J::J::J::J::J::J::J::J::J::J::J::J::J::J::J::J::J::J::J::J::J::J::J::J::J::J::J::J::J::J::J::J::J::J::J::J::J::J::J::J::J::J::J::J::J::J::J::J::J::J::J::J::J::J::J::J::J::J::J::J::J::J::J::J::J::J::J::J::J::J::J::J::J::J::J::J::J::J::J::J::J::J::J::J::J::J::J::J::J::J::J::J::J::J::J::J::[]), h⟩ = some (.exit 2, ⟨(J::J::.ptr 0 0 0 0 :: .ptr 1 0 0 0::J::.int .i64 s::J::J::J::J::J::J::J::J::J::J::J::J::J::J::J::J::J::J::J::J::J::J::J::J::J::J::J::J::J::J::J::J::J::J::J::J::J::J::J::J::J::J::J::J::J::J::J::J::J::J::J::J::J::J::J::J::J::J::J::J::J::J::J::J::J::J::J::J::J::J::J::J::J::J::J::J::J::J::J::J::J::J::J::J::J::J::J::J::J::J::J::J::J::J::J::J::J::J::J::J::J::J::J::J::J::J::[]), h⟩) := by
  intro s hs d
  obtain ⟨ra, hra, xa⟩ := ha.ix s hs
  obtain ⟨rb, hrb, xb⟩ := ha'.ix s hs
  have nr := hra.len
  have hl := hr _ (Y3 hs)
  induction d with
  | zero =>
   intro i m h1 h2
   obtain ⟨m, rfl⟩ : ∃ q, m = q + 1 := ⟨m - 1, by omega⟩
   have h3 : ¬ ((i : Int) < t.acts[s].length) := by omega
   simp only [loop_e,EB_r32_SameTable_1,Zab,Zac,Zad,Zag,Zah,Zaj,Zak,Zal,Zas,Zav,Zay,Zbi,Zbk,Zbo,Zbq,Zby,Zcb,Zcg,Zcv,Zcx,Zdb,Zdc,Zdd,Q2,Q7,Q4,Q5,Zdh,Zdx,decide_false,Nat.reduceAdd,eq_self,l0,xa,lv_p,nr,h3]
  | succ d ih =>
   intro i m h1 h2
   obtain ⟨m, rfl⟩ : ∃ q, m = q + 1 := ⟨m - 1, by omega⟩
   have h3 : i < t.acts[s].length := by omega
   have h3' : (i : Int) < t.acts[s].length := by omega
   have hwr := w64s (n := i) (by omega)
   obtain ⟨cv, hcv, xc⟩ := hra.ix i h3
   obtain ⟨dv', hdv, xd⟩ := hrb.ix i h3
   have n1 := hcv.len
   have n2 := hdv.len
   have hcl := hc _ (Y3 hs) _ (Y3 h3)
   have e2 := in2 _ cv dv' hcv hdv hcl s i t.acts[s][i].length 0 6000 (by omega) (by omega)
   rw [z0] at e2
   have dd : decide ((t.acts[s][i].length : Int) = t.acts[s][i].length) = true := decide_eq_true rfl
   rw [← ih (i + 1) m (by omega) (by omega)]
   simp only [loop_e,EB_r32_SameTable_1,Zaa,Zab,Zac,Zad,Zae,Zaf,Zag,Zaj,Zak,Zan,Zap,Zar,Zas,Zat,Zau,Zay,Zbi,Zbk,Zbo,Zbq,Zby,Zcb,Zcg,Zcv,Zcw,Zcx,Zdb,Zdc,Zdd,Q2,Q7,Q4,Q5,Zde,Zdh,Zdm,Zdx,decide_true,Z4,Nat.reduceAdd,eq_self,l0,m0,xa,xb,lv_p,nr,h3',xc,xd,n1,n2,e2,hwr]
 have in0 : ∀ (d i m : Nat), t.acts.length = i + d → d < m → loopN (evalCode (lim G0.cfg) 6000 B_r32_SameTable_0) m ⟨(J::J::.ptr 0 0 0 0 :: .ptr 1 0 0 0::J::.int .i64 i::J::J::J::J::J::J::J::J::J::J::J::J::J::J::J::J::J::J::J::J::J::J::J::J::J::J::J::J::J::J::J::J::J::J::J::J::J::J::J::J::J::J::J::J::J::J::J::J::J::J::J::J::J::J::J::J::J::J::J::J::J::J::J::J::J::J::J::J::J::J::J::J::J::J::J::J::J::J::J::J::J::J::J::J::J::J::J::J::J::J::J::J::J::J::J::J::J::J::J::J::J::J::J::J::J::J::[]), h⟩ = some (.exit 0, ⟨(J::J::.ptr 0 0 0 0 :: .ptr 1 0 0 0::J::J::J::J::J::J::J::J::J::J::J::J::J::J::J::J::J::J::J::J::J::J::J::J::J::J::J::J::J::J::J::J::J::J::J::J::J::J::J::J::J::J::J::J::J::J::J::J::J::J::J::J::J::J::J::J::J::J::J::J::J::J::J::J::J::J::J::J::J::J::J::J::J::J::J::J::J::J::J::J::J::J::J::J::J::J::J::J::J::J::J::J::J::J::J::J::J::J::J::J::J::J::J::J::J::J::J::J::[]), h⟩) := by
  intro d
  induction d with
  | zero =>
   intro i m h1 h2
   obtain ⟨m, rfl⟩ : ∃ q, m = q + 1 := ⟨m - 1, by omega⟩
   have h3 : ¬ ((i : Int) < t.acts.length) := by omega
   simp only [loop_e,EB_r32_SameTable_0,Zab,Zac,Zad,Zag,Zah,Zaj,Zak,Zal,Zas,Zav,Zay,Zbi,Zbk,Zbo,Zbq,Zby,Zcg,Zcv,Zcx,Zdb,Zdc,Zdd,Q2,Q7,Q4,Q5,Zdh,Zdx,decide_false,Nat.reduceAdd,eq_self,l0,na,h3]
  | succ d ih =>
   intro i m h1 h2
   obtain ⟨m, rfl⟩ : ∃ q, m = q + 1 := ⟨m - 1, by omega⟩
   have h3 : i < t.acts.length := by omega
   have h3' : (i : Int) < t.acts.length := by omega
   have hwr := w64s (n := i) (by omega)
   obtain ⟨ra, hra, xa⟩ := ha.ix i h3
   obtain ⟨rb, hrb, xb⟩ := ha'.ix i h3
   have n1 := hra.len
   have n2 := hrb.len
   have hl := hr _ (Y3 h3)
   have e2 := in1 i h3 t.acts[i].length 0 6000 (by omega) (by omega)
   rw [z0] at e2
   have dd : decide ((t.acts[i].length : Int) = t.acts[i].length) = true := decide_eq_true rfl
   rw [← ih (i + 1) m (by omega) (by omega)]
   simp only [loop_e,EB_r32_SameTable_0,Zaa,Zab,Zac,Zad,Zae,Zaf,Zag,Zaj,Zak,Zan,Zap,Zar,Zas,Zat,Zau,Zay,Zbi,Zbk,Zbo,Zbq,Zby,Zcb,Zcg,Zcv,Zcw,Zcx,Zdb,Zdc,Zdd,Q2,Q7,Q4,Q5,Zde,Zdh,Zdm,Zdx,decide_true,Z4,Nat.reduceAdd,eq_self,l0,m0,na,xa,xb,lv_p,h3',n1,n2,e2,hwr]
 have in3 : ∀ (d i m : Nat), t.gotos.length = i + d → d < m → loopN (evalCode (lim G0.cfg) 6000 B_r32_SameTable_3) m ⟨(J::J::.ptr 0 0 0 0 :: .ptr 1 0 0 0::J::J::J::J::J::J::.int .i64 i::J::J::J::J::J::J::J::J::J::J::J::J::J::J::J::J::J::J::J::J::J::J::J::J::J::J::J::J::J::J::J::J::J::J::J::J::J::J::J::J::J::J::J::J::J::J::J::J::J::J::J::J::J::J::J::J::J::J::J::J::J::J::J::J::J::J::J::J::J::J::J::J::J::J::J::J::J::J::J::J::J::J::J::J::J::J::J::J::J::J::J::J::J::J::J::J::J::J::J::J::J::[]), h⟩ = some (.exit 6, ⟨(J::J::J::J::J::J::J::J::J::J::J::J::J::J::J::J::J::J::J::J::J::J::J::J::J::J::J::J::J::J::J::J::J::J::J::J::J::J::J::J::J::J::J::J::J::J::J::J::J::J::J::J::J::J::J::J::J::J::J::J::J::J::J::J::J::J::J::J::J::J::J::J::J::J::J::J::J::J::J::J::J::J::J::J::J::J::J::J::J::J::J::J::J::J::J::J::J::J::J::J::J::J::J::J::J::J::J::J::J::J::J::J::[]), h⟩) := by
  intro d
  induction d with
  | zero =>
   intro i m h1 h2
   obtain ⟨m, rfl⟩ : ∃ q, m = q + 1 := ⟨m - 1, by omega⟩
   have h3 : ¬ ((i : Int) < t.gotos.length) := by omega
   simp only [loop_e,EB_r32_SameTable_3,Zab,Zac,Zad,Zag,Zah,Zaj,Zak,Zal,Zas,Zav,Zay,Zbi,Zbk,Zbo,Zbq,Zby,Zcg,Zcv,Zcx,Zdc,Zdd,Q2,Q7,Q4,Q5,Zdh,Zdx,decide_false,Nat.reduceAdd,eq_self,l1,ng,h3]
  | succ d ih =>
   intro i m h1 h2
   obtain ⟨m, rfl⟩ : ∃ q, m = q + 1 := ⟨m - 1, by omega⟩
   have h3 : i < t.gotos.length := by omega
   have h3' : (i : Int) < t.gotos.length := by omega
   have hwr := w64s (n := i) (by omega)
   obtain ⟨ra, hra, xa⟩ := hg.ix i h3
   obtain ⟨rb, hrb, xb⟩ := hg'.ix i h3
   have e2 := r_same hra hrb (hgr _ (Y3 h3))
   rw [decide_eq_true rfl] at e2
   rw [← ih (i + 1) m (by omega) (by omega)]
   simp only [loop_e,EB_r32_SameTable_3,Zaa,Zab,Zac,Zad,Zae,Zag,Zaj,Zak,Zan,Zar,Zas,Zau,Zay,Zaz,Zbi,Zbk,Zbo,Zbq,Zbr,Zby,Zcb,Zcg,Zcp,Zcq,Zcv,Zcw,Zcx,Zcz,Zda,Zdb,Zdc,Zdd,Q2,Q7,Q4,Q5,Zde,Zdh,Zdr,Zdx,decide_true,Z4,Nat.reduceAdd,eq_self,Q6,Q3,l1,m1,ng,xa,xb,lv_p,h3',e2,hwr]
 have e0 := in0 t.acts.length 0 6000 (by omega) (by omega)
 have e3 := in3 t.gotos.length 0 6000 (by omega) (by omega)
 rw [z0, hh] at e0 e3
 rw [hh] at l0 l1 m0 m1
 have d1 : decide ((t.acts.length : Int) = t.acts.length) = true := decide_eq_true rfl
 have d2 : decide ((t.gotos.length : Int) = t.gotos.length) = true := decide_eq_true rfl
 rw [R_r32_SameTable]
 simp only [Zaa,Zab,Zac,Zad,Zae,Zaf,Zag,Zai,Zaj,Zak,Zap,Zas,Zat,Zay,Zaz,Zbc,Zbh,Zbi,Zbj,Zbk,Zbl,Zbn,Zbo,Zbq,Zby,Zcg,Zcs,Zcu,Zcv,Zcw,Zcx,Zdb,Zdc,Zdd,Q2,Q7,Q4,Q5,Z2,Zdm,Zdx,decide_true,Z4,Q1,Q0,if_true,Nat.reduceAdd,Nat.reduceSub,eq_self,true_and,Q1,Q0,Q8,Q9,Q6,Q3,ca,cb,eq_self,if_true,l0,l1,m0,m1,na,na',ng,ng',e0,e3,resAll,resVals,resVal,Z3,Prod.mk.injEq,true_and,exists_eq']
end
end Go.Proofs.Ytkgndbhflehhhaa.Ai
