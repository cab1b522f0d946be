/- Trees: does a tree agree with the rules? -/
import Derived.Test.YtkimloceaihplaamTB
import Derived.Test.YtkimloceaihplaamTE
import Derived.Test.YtkimloceaihplaamTF
namespace Go.Proofs.Ytkimloceaihplaa.Ai
open Go Go.Proofs
open AV renaming junk → J
open List renaming set_cons_zero → Q0, length_cons → Q1, length_nil → Q2, cons_append → Q3, nil_append → Q4, getElem?_cons_zero → Q5, getD_cons_zero → Q6, getD_cons_succ → Q7, take_succ_cons → Q8, set_cons_succ → Q9, getElem?_cons_succ → Z0, drop_zero → Z2, replicate_succ → Z3, replicate_zero → Z4, drop_succ_cons → Z5, take_zero → Z8, length_map → Z9, take_nil → Y0, all_cons → Y3, all_nil → Y4
open Option renaming bind_some → Z1, map_some → Z7
open Option.some renaming injEq → Z6
open Bool renaming false_and → Y1, true_and → Y2, not_true → Y5, not_false → Y6
set_option linter.unusedVariables false
set_option linter.unusedSimpArgs false
set_option maxRecDepth 10000
set_option maxHeartbeats 4000000
theorem f_tthere (g : GramD) (hg : g.Ok) (s : Int) (hs : inI64 s) (H : AHeap) : lim G0.cfg (.func 51) [.agg (eGram g), .int .i64 s] H = some (.bool (isSym g s), H) := by
 refine lim_flat rfl rfl P_tree_there 1 (fun h => fz_2 (fz_gram g h) rfl) ?_ (fun _ => rfl) H
 have hw : IntKind.i64.wrap (-1 - s) = -1 - s := by obtain ⟨a, b⟩ := hs; exact w64 (by omega) (by omega)
 have hd : decide (-(g.nonterms.length : Int) ≤ s) = decide (-1 - s < (g.nonterms.length : Int)) := by rw [decide_eq_decide]; omega
 rw [R_tree_there]
 unfold isSym
 rw [hd]
 by_cases h1 : s < (g.terms.length : Int)
 ·simp only [Zab,Zac,Zai,Zaj,Zak,Zay,Zaz,Zbb,Zbg,Zbi,Zbj,Zbk,Zbl,Zbn,Zbo,Zbq,Zby,Zcg,Zcs,Zcu,Zcv,Zcw,Zcx,Q0,Q9,Q6,Q7,Z1,Z7,Zdf,Zdh,Zdt,Zdx,Zdz,Zeb,Zeq,decide_true,Q5,Q1,Q2,if_true,Nat.reduceAdd,Nat.reduceSub,Nat.reduceLeDiff,Int.reduceNeg,eq_self,true_and,Q1,Q2,Z3,Z4,Q3,Q4,aload,acells,getArr,part,Z2,Z5,Q8,Z8,Q3,Q4,Q0,h1,hw,resAll,resVals,resVal,Z6,Prod.mk.injEq,true_and,Y2,exists_eq']
 ·simp only [Zab,Zac,Zai,Zaj,Zak,Zay,Zaz,Zbe,Zbh,Zbi,Zbj,Zbk,Zbl,Zbn,Zbo,Zbq,Zby,Zcg,Zcs,Zcu,Zcv,Zcw,Zcx,Q0,Q9,Q6,Q7,Z1,Z7,Zdh,Zdt,Zdx,Zdz,Zeb,Zeq,decide_false,Q5,Q1,Q2,if_true,Nat.reduceAdd,Nat.reduceSub,Nat.reduceLeDiff,Int.reduceNeg,eq_self,true_and,Q1,Q2,Z3,Z4,Q3,Q4,aload,acells,getArr,part,Z2,Q8,Z8,Q3,Q4,Q0,h1,resAll,resVals,resVal,Z6,Prod.mk.injEq,true_and,Y1,exists_eq']
theorem r_Symbol (g : GramD) (hg : g.Ok) (s : Int) (H : AHeap) : lim G0.cfg (.func 57) [.agg (eGram g), .int .i64 s] H = some (.bool (isSym g s), H) := by
 refine lim_flat rfl rfl P_r20_Symbol 1 (fun h => fz_2 (fz_gram g h) rfl) ?_ (fun _ => rfl) H
 have hw : IntKind.i64.wrap (-(g.nonterms.length : Int)) = -(g.nonterms.length : Int) := by have := hg.nonterms; rw [maxLen_eq] at this; exact w64 (by omega) (by omega)
 rw [R_r20_Symbol]
 unfold isSym
 by_cases h1 : s < (g.terms.length : Int)
 ·simp only [Zab,Zac,Zai,Zaj,Zak,Zay,Zaz,Zbb,Zbg,Zbi,Zbj,Zbk,Zbl,Zbn,Zbo,Zbq,Zbr,Zby,Zcg,Zcs,Zcu,Zcv,Zcw,Zcx,Q0,Q9,Q6,Q7,Z1,Z7,Zdh,Zdk,Zds,Zdt,Zdx,Zdz,Zeb,Zeq,decide_true,Q5,Q1,Q2,if_true,Nat.reduceAdd,Nat.reduceSub,Nat.reduceLeDiff,eq_self,true_and,Q1,Q2,Z3,Z4,Q3,Q4,aload,acells,getArr,part,Z2,Z5,Q8,Z8,Q3,Q4,Q0,h1,hw,resAll,resVals,resVal,Z6,Prod.mk.injEq,true_and,Y2,exists_eq']
 ·simp only [Zab,Zac,Zai,Zaj,Zak,Zay,Zaz,Zbe,Zbh,Zbi,Zbj,Zbk,Zbl,Zbn,Zbo,Zbq,Zby,Zcg,Zcs,Zcu,Zcv,Zcw,Zcx,Q0,Q9,Q6,Q7,Z1,Z7,Zdh,Zdt,Zdx,Zdz,Zeb,Zeq,decide_false,Q5,Q1,Q2,if_true,Nat.reduceAdd,Nat.reduceSub,Nat.reduceLeDiff,eq_self,true_and,Q1,Q2,Z3,Z4,Q3,Q4,aload,acells,getArr,part,Z2,Q8,Z8,Q3,Q4,Q0,h1,resAll,resVals,resVal,Z6,Prod.mk.injEq,true_and,Y1,exists_eq']
theorem nodesB_eq (g : GramD) : ∀ ks, nodesB g ks = ks.all (nodeB g)
 | [] => rfl
 | t :: r => by simp [nodesB, nodesB_eq g r]
theorem r_node (g : GramD) (hg : g.Ok) : ∀ t, okT t → ∀ H, lim G0.cfg (.func 36) [.agg (eGram g), .agg (cT t)] H = some (.bool (nodeB g t), H) := by
 intro t
 induction t using T.ind with
 | _ s r ks ih =>
 intro hok H
 refine lim_flat rfl rfl P_r20_node (ks.length + 1) (fun h => fz_2 (fz_gram g h) (fz_tree _ h)) ?_ (fun _ => rfl) H
 obtain ⟨hs, hr, hlen, hoks⟩ := id hok
 rw [maxLen_eq] at hlen
 have tt := r_Symbol g hg s
 rw [R_r20_node]
 simp only [nodeB,fitsB,nodesB_eq]
 by_cases q1 : r = -1
 case pos =>
  subst q1
  rw [if_pos rfl]
  by_cases q2 : (ks.length : Int) = 0
  ·have e : ks = [] := List.length_eq_zero_iff.1 (by omega)
   subst e
   simp only [Zab,Zac,Zad,Zai,Zaj,Zak,Zam,Zar,Zay,Zaz,Zbb,Zbg,Zbi,Zbj,Zbk,Zbl,Zbn,Zbo,Zbq,Zby,Zcg,Zcp,Zcq,Zcs,Zcu,Zcv,Zcw,Zcx,Zcz,Zda,Q0,Q9,Q6,Q7,Z1,Z7,Zdl,Zdt,Zdx,Zdz,Zea,Zeb,decide_true,Q5,Z0,Q1,Q2,if_true,Nat.reduceAdd,Nat.reduceSub,Nat.reduceLeDiff,Int.reduceNeg,eq_self,true_and,Q1,Q2,Z3,Z4,Q3,Q4,aload,acells,getArr,part,Y4,Z2,Z5,Q8,Z8,Y0,Q3,Q4,Q0,cT,cTs,tt,z0,Y4,resAll,resVals,resVal,Z6,Prod.mk.injEq,true_and,Y2,Bool.and_true,exists_eq']
  ·simp only [Zab,Zac,Zad,Zai,Zaj,Zak,Zam,Zar,Zay,Zaz,Zbe,Zbh,Zbi,Zbj,Zbk,Zbl,Zbn,Zbo,Zbq,Zby,Zcg,Zcs,Zcu,Zcv,Zcw,Zcx,Q0,Q9,Q6,Q7,Z1,Z7,Zdl,Zdt,Zdx,Zdz,Zeb,decide_true,decide_false,Q5,Z0,Q1,Q2,if_true,Nat.reduceAdd,Nat.reduceSub,Nat.reduceLeDiff,Int.reduceNeg,eq_self,true_and,Z9,Q1,Q2,Z3,Z4,Q3,Q4,aload,acells,getArr,part,Z2,Z5,Q8,Z8,Y0,Q3,Q4,Q0,cT,cTs_map,q2,resAll,resVals,resVal,Z6,Prod.mk.injEq,true_and,Y1,exists_eq']
 case neg =>
 rw [if_neg q1]
 by_cases q2 : r < 0
 case pos =>
  rw [if_pos (.inl q2)]
  simp only [Zaa,Zab,Zac,Zad,Zai,Zaj,Zak,Zam,Zar,Zas,Zay,Zaz,Zbd,Zbg,Zbi,Zbj,Zbk,Zbl,Zbn,Zbo,Zbq,Zby,Zcs,Zcu,Zcv,Zcw,Zcx,Q0,Q9,Q6,Q7,Z1,Z7,Zdh,Zdl,Zdx,Zdz,Zeb,decide_true,decide_false,Q5,Z0,Q1,Q2,if_true,Nat.reduceAdd,Nat.reduceSub,Nat.reduceLeDiff,Int.reduceNeg,eq_self,true_and,Q1,Q2,Z3,Z4,Q3,Q4,aload,acells,getArr,part,Z2,Z5,Q8,Z8,Q3,Q4,Q0,cT,cTs_map,q1,q2,resAll,resVals,resVal,Z6,Prod.mk.injEq,true_and,Y1,exists_eq']
 case neg =>
 by_cases q3 : (g.rules.length : Int) ≤ r
 case pos =>
  rw [if_pos (.inr q3)]
  simp only [Zaa,Zab,Zac,Zad,Zai,Zaj,Zak,Zam,Zar,Zas,Zay,Zaz,Zbc,Zbh,Zbi,Zbj,Zbk,Zbl,Zbn,Zbo,Zbq,Zby,Zcg,Zcs,Zcu,Zcv,Zcw,Zcx,Q0,Q9,Q6,Q7,Z1,Z7,Zdh,Zdk,Zdl,Zdt,Zdx,Zdz,Zeb,decide_true,decide_false,Q5,Z0,Q1,Q2,if_true,Nat.reduceAdd,Nat.reduceSub,Nat.reduceLeDiff,Int.reduceNeg,eq_self,true_and,Z9,Q1,Q2,Z3,Z4,Q3,Q4,aload,acells,getArr,part,Z2,Z5,Q8,Z8,Q3,Q4,Q0,cT,cTs_map,q1,q2,q3,resAll,resVals,resVal,Z6,Prod.mk.injEq,true_and,Y1,exists_eq']
 case neg =>
 rw [if_neg (by omega)]
 obtain ⟨k, rfl⟩ : ∃ k : Nat, r = k := ⟨r.toNat, by omega⟩
 have hk : k < g.rules.length := by omega
 have hgk : g.rules[(k : Int).toNat]? = some g.rules[k] := by simp [hk]
 rw [hgk]
 simp only
 obtain ⟨x, hx⟩ : ∃ x, x = g.rules[k] := ⟨_, rfl⟩
 have hxo : x.Ok := by rw [hx]; exact hg.rule _ (List.getElem_mem hk)
 have ii := fun h => ix_map eRule h 5 false g.rules .i64 k hk rfl
 rw [← hx] at ii ⊢
 have hwl : IntKind.i64.wrap (-1 - x.left) = -1 - x.left := by obtain ⟨a, b⟩ := hxo.left0; exact w64 (by omega) (by omega)
 by_cases q4 : s = -1 - x.left
 case neg =>
  simp only [Zaa,Zab,Zac,Zad,Zai,Zaj,Zak,Zam,Zar,Zas,Zay,Zaz,Zba,Zbc,Zbd,Zbg,Zbh,Zbi,Zbj,Zbk,Zbl,Zbm,Zbn,Zbo,Zbp,Zbq,Zby,Zcb,Zcg,Zcs,Zcu,Zcv,Zcw,Zcx,Zcy,Q0,Q9,Q6,Q7,Z1,Z7,Zdf,Zdh,Zdk,Zdl,Zdm,Zdt,Zdx,Zdz,Zea,Zeb,decide_false,Y6,Q5,Z0,Q1,Q2,if_true,Nat.reduceAdd,Nat.reduceSub,Nat.reduceLeDiff,Int.reduceNeg,eq_self,and_self,true_and,Z9,Q1,Q2,Z3,Z4,Q3,Q4,aload,acells,getArr,part,astore,putCells,Y3,Y4,cellOk,Bool.and_self,Z2,Z5,Q8,Z8,Y0,Q3,Q4,Q0,cT,cTs_map,q1,q2,q3,q4,ii,hwl,resAll,resVals,resVal,Z6,Prod.mk.injEq,true_and,Y1,exists_eq']
 case pos =>
 by_cases q5 : (ks.length : Int) = x.right.length
 case neg =>
  have hne : ¬ (ks.map T.sym = x.right) := fun e => q5 (by rw [← e, Z9])
  simp only [Zaa,Zab,Zac,Zad,Zai,Zaj,Zak,Zam,Zar,Zas,Zay,Zaz,Zba,Zbc,Zbh,Zbi,Zbj,Zbk,Zbl,Zbm,Zbn,Zbo,Zbp,Zbq,Zby,Zcb,Zcg,Zcs,Zcu,Zcv,Zcw,Zcx,Zcy,Q0,Q9,Q6,Q7,Z1,Z7,Zdf,Zdh,Zdk,Zdl,Zdm,Zdt,Zdx,Zdz,Zea,Zeb,Zep,decide_true,decide_false,Y5,Y6,Q5,Z0,Q1,Q2,if_true,Nat.reduceAdd,Nat.reduceSub,Nat.reduceLeDiff,Int.reduceNeg,eq_self,and_self,true_and,Z9,Q1,Q2,Z3,Z4,Q3,Q4,aload,acells,getArr,part,astore,putCells,Y3,Y4,cellOk,Bool.and_self,Z2,Z5,Q8,Z8,Y0,Q3,Q4,Q0,cT,cTs_map,q1,q2,q3,q4,q5,hne,ii,hwl,resAll,resVals,resVal,Z6,Prod.mk.injEq,true_and,Y1,Bool.and_false,exists_eq']
 case pos =>
 have loop : ∀ (d i m : Nat) (c : AV), ks.length = i + d → d < m →
   loopN (evalCode (lim G0.cfg) (ks.length + 1) B_r20_node_0) m ⟨(J::J::.ptr 0 0 0 0 :: .ptr 1 0 0 0::J::.ptr 2 0 0 0 :: .int .i64 i::J::J::J::J::J::J::J::J::J::J::J::J::J::J::J::J::J::J::J::J::J::J::J::J::J::J::J::J::J::J::J::J::J::J::J::J::J::J::J::J::J::J::J::J::J::J::J::J::J::J::J::J::J::J::J::J::J::J::J::J::J::J::J::J::J::J::J::J::J::J::J::J::J::J::[]), [.arr 0 5 true [eGram g], .arr 0 3 true [[c, .int .i64 k, .vsl false (ks.map cT)]], .arr 0 5 true [eRule x]]⟩ =
    bif decide ((ks.drop i).map T.sym = x.right.drop i) && (ks.drop i).all (nodeB g) then some (.exit 0, ⟨(J::J::J::J::J::J::J::J::J::J::J::J::J::J::J::J::J::J::J::J::J::J::J::J::J::J::J::J::J::J::J::J::J::J::J::J::J::J::J::J::J::J::J::J::J::J::J::J::J::J::J::J::J::J::J::J::J::J::J::J::J::J::J::J::J::J::J::J::J::J::J::J::J::J::J::J::J::J::J::J::J::[]), [.arr 0 5 true [eGram g], .arr 0 3 true [[c, .int .i64 k, .vsl false (ks.map cT)]], .arr 0 5 true [eRule x]]⟩)
     else some (.ret, ⟨(J::J::J::J::.bool false::J::J::J::J::J::J::J::J::J::J::J::J::J::J::J::J::J::J::J::J::J::J::J::J::J::J::J::J::J::J::J::J::J::J::J::J::J::J::J::J::J::J::J::J::J::J::J::J::J::J::J::J::J::J::J::J::J::J::J::J::J::J::J::J::J::J::J::J::J::J::J::J::J::J::J::J::[]), [.arr 0 5 true [eGram g], .arr 0 3 true [[c, .int .i64 k, .vsl false (ks.map cT)]], .arr 0 5 true [eRule x]]⟩) := by
  intro d
  induction d with
  | zero =>
   intro i m c h1 h2
   obtain ⟨m, rfl⟩ : ∃ q, m = q + 1 := ⟨m - 1, by omega⟩
   have e1 : ks.drop i = [] := List.drop_eq_nil_iff.2 (by omega)
   have e2 : x.right.drop i = [] := List.drop_eq_nil_iff.2 (by omega)
   have h3 : ¬ ((i : Int) < ks.length) := by omega
   have e3 : (decide ((ks.drop i).map T.sym = x.right.drop i) && (ks.drop i).all (nodeB g)) = true := by rw [e1, e2]; rfl
   rw [e3]
   simp only [loop_e,EB_r20_node_0,Zab,Zac,Zad,Zag,Zah,Zaj,Zak,Zal,Zas,Zav,Zay,Zbi,Zbk,Zbo,Zbq,Zby,Zcg,Zcv,Zcx,Zdc,Zdd,Q0,Q9,Q6,Q7,Z1,Zdh,Zdt,Zdx,Zdz,decide_false,Q5,Z0,Q1,Q2,if_true,Nat.reduceAdd,Nat.reduceLeDiff,eq_self,cond_true,Z9,aload,acells,getArr,part,Z2,Z5,Q8,Y0,Q0,h3]
  | succ d ihd =>
   intro i m c h1 h2
   obtain ⟨m, rfl⟩ : ∃ q, m = q + 1 := ⟨m - 1, by omega⟩
   have h3 : i < ks.length := by omega
   have h3' : (i : Int) < ks.length := by omega
   have h4 : i < x.right.length := by omega
   have e1 : ks.drop i = ks[i] :: ks.drop (i + 1) := List.drop_eq_getElem_cons h3
   have e2 : x.right.drop i = x.right[i] :: x.right.drop (i + 1) := List.drop_eq_getElem_cons h4
   have hw := w64s (n := i) (by omega)
   have hk := cT_eq ks[i]
   have hmem : ks[i] ∈ ks := List.getElem_mem h3
   have hc := ih ks[i] hmem (okTs_mem hoks hmem)
   have jj := fun h => ix_tree h false ks .i64 i h3
   simp only [hk] at hc jj
   by_cases hab : (ks[i]).sym = x.right[i]
   case neg =>
    have e3 : (decide ((ks.drop i).map T.sym = x.right.drop i) && (ks.drop i).all (nodeB g)) = false := by rw [e1, e2, List.map_cons]; simp only [List.cons.injEq,hab,false_and,decide_false,Y1]
    rw [e3]
    simp only [loop_e,EB_r20_node_0,Zaa,Zab,Zac,Zad,Zae,Zag,Zai,Zaj,Zak,Zam,Zao,Zar,Zaw,Zay,Zbd,Zbg,Zbi,Zbj,Zbk,Zbl,Zbo,Zbq,Zby,Zcb,Zcg,Zcv,Zcw,Zcx,Zdb,Zdc,Zdd,Q0,Q9,Q6,Q7,Z1,Zdh,Zdm,Zdt,Zdx,Zdy,Zdz,decide_true,decide_false,Y6,Q5,Z0,Q1,Q2,if_true,Nat.reduceAdd,Nat.reduceLeDiff,eq_self,cond_false,Z9,aload,acells,getArr,part,eI,Z2,Z5,Q8,Z8,Y0,Q0,h3',jj,ix_eIs _ _ x.right _ i h4,hab]
   case pos =>
   rw [hab] at hc jj
   cases hn : nodeB g ks[i]
   case false =>
    have e3 : (decide ((ks.drop i).map T.sym = x.right.drop i) && (ks.drop i).all (nodeB g)) = false := by rw [e1, Y3, hn]; simp only [Y1,Bool.and_false]
    rw [e3]
    rw [hn] at hc
    simp only [loop_e,EB_r20_node_0,Zaa,Zab,Zac,Zad,Zae,Zag,Zai,Zaj,Zak,Zam,Zao,Zar,Zaw,Zay,Zaz,Zbc,Zbh,Zbi,Zbj,Zbk,Zbl,Zbo,Zbq,Zbr,Zby,Zcb,Zcg,Zcp,Zcq,Zcv,Zcw,Zcx,Zcz,Zda,Zdb,Zdc,Zdd,Q0,Q9,Q6,Q7,Z1,Zdh,Zdm,Zdr,Zdt,Zdx,Zdy,Zdz,Zea,decide_true,Y5,Y6,Q5,Z0,Q1,Q2,if_true,Nat.reduceAdd,Nat.reduceLeDiff,eq_self,cond_false,Z9,aload,acells,getArr,part,eI,Z2,Z5,Q8,Z8,Y0,Q3,Q4,Q0,h3',jj,ix_eIs _ _ x.right _ i h4,hc]
   case true =>
    have e3 : (decide ((ks.drop i).map T.sym = x.right.drop i) && (ks.drop i).all (nodeB g)) = (decide ((ks.drop (i + 1)).map T.sym = x.right.drop (i + 1)) && (ks.drop (i + 1)).all (nodeB g)) := by
     rw [e1, e2, List.map_cons, hab, Y3, hn]; simp only [List.cons.injEq,true_and,Y2]
    rw [e3, ← ihd (i + 1) m c (by omega) (by omega)]
    rw [hn] at hc
    simp only [loop_e,EB_r20_node_0,Zaa,Zab,Zac,Zad,Zae,Zag,Zaj,Zak,Zan,Zar,Zas,Zau,Zay,Zaz,Zbc,Zbh,Zbi,Zbj,Zbk,Zbl,Zbo,Zbq,Zbr,Zby,Zcb,Zcg,Zcp,Zcq,Zcv,Zcw,Zcx,Zcz,Zda,Zdb,Zdc,Zdd,Q0,Q9,Q6,Q7,Z1,Zde,Zdh,Zdm,Zdr,Zdt,Zdx,Zdy,Zdz,Zea,decide_true,Y5,Q5,Z0,Q1,Q2,if_true,Nat.reduceAdd,Nat.reduceLeDiff,eq_self,Z9,aload,acells,getArr,part,eI,Z2,Z5,Q8,Z8,Y0,Q3,Q4,Q0,h3',jj,ix_eIs _ _ x.right _ i h4,hc,hw]
 have e := loop ks.length 0 (ks.length + 1) (.int .i64 s) (by omega) (by omega)
 rw [Z2, Z2, z0] at e
 have hs4 : decide (s = -1 - x.left) = true := by simp [q4]
 rw [hs4, Y2]
 rw [q4] at e
 cases q : (decide (ks.map T.sym = x.right) && ks.all (nodeB g))
 ·rw [q] at e
  simp only [cond_false] at e
  simp only [Zaa,Zab,Zac,Zad,Zae,Zaf,Zag,Zaj,Zak,Zam,Zao,Zas,Zat,Zay,Zaz,Zba,Zbc,Zbh,Zbi,Zbj,Zbk,Zbl,Zbm,Zbn,Zbo,Zbp,Zbq,Zby,Zcb,Zcg,Zcs,Zcu,Zcv,Zcw,Zcx,Zcy,Zdb,Zdc,Zdd,Q0,Q9,Q6,Q7,Z1,Z7,Zdf,Zdh,Zdk,Zdl,Zdm,Zdt,Zdx,Zdz,Zea,Zeb,Zep,decide_true,decide_false,Y5,Q5,Z0,Q1,Q2,if_true,Nat.reduceAdd,Nat.reduceSub,Nat.reduceLeDiff,Int.reduceNeg,eq_self,and_self,true_and,Z9,Q1,Q2,Z3,Z4,Q3,Q4,aload,acells,getArr,part,astore,putCells,Y3,Y4,cellOk,Bool.and_self,Z2,Z5,Q8,Z8,Y0,Q3,Q4,Q0,cT,cTs_map,q1,q2,q3,q4,q5,ii,hwl,e,resAll,resVals,resVal,Z6,Prod.mk.injEq,true_and,exists_eq']
 ·rw [q] at e
  simp only [cond_true] at e
  simp only [Zaa,Zab,Zac,Zad,Zae,Zaf,Zag,Zai,Zaj,Zak,Zap,Zas,Zat,Zay,Zaz,Zba,Zbc,Zbh,Zbi,Zbj,Zbk,Zbl,Zbm,Zbn,Zbo,Zbp,Zbq,Zby,Zcb,Zcg,Zcs,Zcu,Zcv,Zcw,Zcx,Zcy,Zdb,Zdc,Zdd,Q0,Q9,Q6,Q7,Z1,Z7,Zdf,Zdh,Zdk,Zdl,Zdm,Zdt,Zdx,Zdz,Zea,Zeb,Zep,decide_true,decide_false,Y5,Q5,Z0,Q1,Q2,if_true,Nat.reduceAdd,Nat.reduceSub,Nat.reduceLeDiff,Int.reduceNeg,eq_self,and_self,true_and,Z9,Q1,Q2,Z3,Z4,Q3,Q4,aload,acells,getArr,part,astore,putCells,Y3,Y4,cellOk,Bool.and_self,Z2,Z5,Q8,Z8,Y0,Q3,Q4,Q0,cT,cTs_map,q1,q2,q3,q4,q5,ii,hwl,e,resAll,resVals,resVal,Z6,Prod.mk.injEq,true_and,exists_eq']
def treeOk (g : GramD) (t : T) : Bool := decide (gramErr g = 0) && nodeB g t
theorem r_tRight (g : GramD) (hg : g.Ok) (t : T) (ht : okT t) (hN : sizeN t ≤ 65536) (H : AHeap) : lim G0.cfg (.func 13) [.agg (eGram g), .agg (cT t)] H = some (.bool (treeOk g t), H) := by
 refine lim_flat rfl rfl P_r20_Right 1 (fun h => fz_2 (fz_gram g h) (fz_tree t h)) ?_ (fun _ => rfl) H
 have c1 := r_Right g hg
 have c2 := r_Size t ht (by omega)
 have c3 := r_node g hg t ht
 have hk := cT_eq t
 simp only [hk] at c2 c3
 have q2 : (sizeN t : Int) ≤ 65536 := by omega
 rw [R_r20_Right]
 unfold treeOk
 by_cases q1 : gramErr g = 0
 ·simp only [Zab,Zac,Zai,Zaj,Zak,Zay,Zaz,Zbb,Zbg,Zbi,Zbj,Zbk,Zbl,Zbn,Zbo,Zbq,Zcp,Zcq,Zcs,Zcu,Zcv,Zcw,Zcx,Zcz,Zda,Q0,Q9,Q6,Q7,Z1,Z7,Zdi,Zdl,Zea,Zeb,decide_true,Q5,Z0,Q1,Q2,if_true,Nat.reduceAdd,Nat.reduceSub,Nat.reduceLeDiff,eq_self,true_and,Q1,Q2,Z3,Z4,Q3,Q4,aload,acells,getArr,part,Z2,Q8,Y0,Q3,Q4,Q0,hk,c1,c2,c3,q1,q2,resAll,resVals,resVal,Z6,Prod.mk.injEq,true_and,Y2,exists_eq']
 ·simp only [Zab,Zac,Zai,Zaj,Zak,Zay,Zaz,Zbe,Zbh,Zbi,Zbj,Zbk,Zbl,Zbn,Zbo,Zbq,Zcp,Zcq,Zcs,Zcu,Zcv,Zcw,Zcx,Zcz,Zda,Q0,Q9,Q6,Q7,Z1,Z7,Zdl,Zea,Zeb,decide_false,Q5,Q1,Q2,if_true,Nat.reduceAdd,Nat.reduceSub,Nat.reduceLeDiff,eq_self,true_and,Q1,Q2,Z3,Z4,Q3,Q4,aload,acells,getArr,part,Z2,Q8,Y0,Q3,Q4,Q0,hk,c1,q1,resAll,resVals,resVal,Z6,Prod.mk.injEq,true_and,Y1,exists_eq']
end Go.Proofs.Ytkimloceaihplaa.Ai
namespace Go.Proofs.Ytkimloceaihplaa.Ai
open Go Go.Proofs
set_option linter.unusedVariables false
set_option linter.unusedSimpArgs false
set_option maxRecDepth 10000
set_option maxHeartbeats 4000000
section
variable {g : GramD} {L : List (Int × Int)} {y h fs : List Int} {xf : AV}
end
end Go.Proofs.Ytkimloceaihplaa.Ai
namespace Go.Proofs.Ytkimloceaihplaa.Ai
open Go Go.Proofs
set_option linter.unusedVariables false
set_option linter.unusedSimpArgs false
set_option maxRecDepth 10000
set_option maxHeartbeats 4000000
section
variable {g : GramD} {L : List (Int × Int)} {y h : List Int} {xy xh : AV}
end
end Go.Proofs.Ytkimloceaihplaa.Ai
