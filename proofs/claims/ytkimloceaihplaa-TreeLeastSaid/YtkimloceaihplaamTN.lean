/- Trees in any form: the reference's size, yield, rules; the walk over nodes; the yield. By program (mk_tg1.py). -/
import Derived.Test.YtkimloceaihplaamTL
import Derived.Test.YtkimloceaihplaamTG
import Derived.Test.YtkimloceaihplaamTM
namespace Go.Proofs.Ytkimloceaihplaa.Ai
open Go Go.Proofs
open AV renaming junk → J
open List renaming set_cons_zero → Q0, length_cons → Q1, length_nil → Q2, cons_append → Q3, nil_append → Q4, getD_cons_zero → Q5, getD_cons_succ → Q6, getElem?_cons_zero → Q7, set_cons_succ → Q8, drop_zero → Q9, take_succ_cons → Z0, drop_succ_cons → Z2, replicate_succ → Z3, replicate_zero → Z4, getElem?_cons_succ → Z5, take_nil → Z6, take_zero → Z8, all_cons → Y0, all_nil → Y1, drop_eq_getElem_cons → Y3, drop_eq_nil_iff → Y6, length_map → Y7, take_of_length_le → W0, getElem_mem → W2
open Option renaming bind_some → Z1, map_some → Z7
open Option.some renaming injEq → Z9
open Bool renaming false_and → Y2, false_eq_true → Y4, and_self → Y5, not_true → Y8, not_false → Y9, true_and → W1
set_option linter.unusedVariables false
set_option linter.unusedSimpArgs false
set_option maxRecDepth 10000
set_option maxHeartbeats 4000000
theorem r_SizeE : ∀ t, okT t → sizeN t ≤ 1000000 → ∀ c, Enc t c → ∀ H, lim G0.cfg (.func 15) [.agg c] H = some (.int .i64 (sizeN t), H) := by
 intro t
 induction t using T.ind with
 | _ s r ks ih =>
 intro hok hN c hE H
 obtain ⟨hs, hr, hlen, hoks⟩ := id hok
 rw [maxLen_eq] at hlen
 have hsz : sizeN (.node s r ks) = 1 + sizeNs ks := by simp [sizeN]
 refine lim_flat rfl rfl P_r20_Size (ks.length + 1) (fun h => fz_1 (fz_enc hE h)) ?_ (fun _ => rfl) H
 obtain ⟨kv, rfl, la, xa, _⟩ := hE.open
 have loop : ∀ (d i m : Nat) (v : Nat), ks.length = i + d → d < m → v + sizeNs (ks.drop i) ≤ 1000000 →
   loopN (evalCode (lim G0.cfg) (ks.length + 1) B_r20_Size_0) m ⟨[J, .ptr 0 0 0 0, J, .int .i64 v, .int .i64 i, J,J,J,J,J,J,J,J,J,J,J,J,J,J,J,J], [.arr 0 3 true [[.int .i64 s, .int .i64 r, kv]]]⟩ =
    some (.exit 0, ⟨[J,J,J, .int .i64 (v + sizeNs (ks.drop i) : Nat), J,J,J,J,J,J,J,J,J,J,J,J,J,J,J,J,J], [.arr 0 3 true [[.int .i64 s, .int .i64 r, kv]]]⟩) := by
  intro d
  induction d with
  | zero =>
   intro i m v h1 h2 h4
   obtain ⟨m, rfl⟩ : ∃ q, m = q + 1 := ⟨m - 1, by omega⟩
   have e1 : ks.drop i = [] := Y6.2 (by omega)
   have h3 : ¬ ((i : Int) < ks.length) := by omega
   rw [e1]
   simp only [loop_e,EB_r20_Size_0,Zab,Zac,Zad,Zag,Zah,Zaj,Zak,Zal,Zas,Zav,Zay,Zbi,Zbk,Zbo,Zbq,Zby,Zcg,Zcv,Zcx,Zdb,Zdc,Zdd,Q0,Q8,Q5,Q6,Z1,Zdh,Zdx,Zdz,decide_false,Q7,Q1,Q2,if_true,Nat.reduceAdd,Nat.reduceLeDiff,eq_self,aload,acells,getArr,part,Q9,Z2,Z0,Z6,Q0,la,h3,sizeNs,Nat.add_zero]
  | succ d ihd =>
   intro i m v h1 h2 h4
   obtain ⟨m, rfl⟩ : ∃ q, m = q + 1 := ⟨m - 1, by omega⟩
   have h3 : i < ks.length := by omega
   have h3' : (i : Int) < ks.length := by omega
   have e1 : ks.drop i = ks[i] :: ks.drop (i + 1) := Y3 h3
   have hw := w64s (n := i) (by omega)
   rw [e1] at h4 ⊢
   simp only [sizeNs] at h4 ⊢
   have hmem : ks[i] ∈ ks := W2 h3
   obtain ⟨ci, ei, xi⟩ := xa i h3
   have hc := ih ks[i] hmem (okTs_mem hoks hmem) (by omega) ci ei
   obtain ⟨ki, rfl⟩ := ei.cells
   have hadd : IntKind.i64.wrap ((v : Int) + (sizeN ks[i] : Int)) = ((v + sizeN ks[i] : Nat) : Int) := by rw [w64 (by omega) (by omega)]; omega
   have := ihd (i + 1) m (v + sizeN ks[i]) (by omega) (by omega) (by omega)
   rw [← Nat.add_assoc, ← this]
   simp only [loop_e,EB_r20_Size_0,Zaa,Zab,Zac,Zad,Zae,Zag,Zaj,Zak,Zan,Zar,Zau,Zay,Zaz,Zbi,Zbk,Zbo,Zbq,Zby,Zcb,Zcg,Zcp,Zcq,Zcv,Zcw,Zcx,Zcz,Zda,Zdb,Zdc,Zdd,Q0,Q8,Q5,Q6,Z1,Zde,Zdh,Zdx,Zdz,Zea,decide_true,Q7,Q1,Q2,if_true,Nat.reduceAdd,Nat.reduceLeDiff,eq_self,aload,acells,getArr,part,Q9,Z2,Z0,Z6,Q3,Q4,Q0,la,h3',xi,hc,hadd,hw]
 have e := loop ks.length 0 (ks.length + 1) 1 (by omega) (by omega) (by rw [Q9]; omega)
 have z1 : ((1 : Nat) : Int) = 1 := rfl
 rw [Q9, z0, z1] at e
 rw [R_r20_Size, hsz]
 simp only [Zab,Zac,Zae,Zaf,Zag,Zai,Zaj,Zak,Zap,Zat,Zaz,Zbi,Zbk,Zbn,Zcs,Zcu,Zcv,Zcw,Zcx,Zdb,Zdc,Zdd,Q0,Q8,Q5,Q6,Z7,Zeb,Q1,Q2,if_true,Nat.reduceAdd,Nat.reduceSub,eq_self,true_and,Q1,Q2,Z3,Z4,Q3,Q4,Q3,Q4,Q0,e,resAll,resVals,resVal,Z9,Prod.mk.injEq,true_and,exists_eq']
theorem r_nodeE (g : GramD) (hg : g.Ok) : ∀ t, okT t → ∀ c, Enc t c → ∀ H, lim G0.cfg (.func 36) [.agg (eGram g), .agg c] H = some (.bool (nodeB g t), H) := by
 intro t
 induction t using T.ind with
 | _ s r ks ih =>
 intro hok c hE H
 refine lim_flat rfl rfl P_r20_node (ks.length + 1) (fun h => fz_2 (fz_gram g h) (fz_enc hE h)) ?_ (fun _ => rfl) H
 obtain ⟨hs, hr, hlen, hoks⟩ := id hok
 rw [maxLen_eq] at hlen
 have tt := r_Symbol g hg s
 obtain ⟨kv, rfl, la, xa, _⟩ := hE.open
 rw [R_r20_node]
 simp only [nodeB,fitsB,nodesB_eq]
 by_cases q1 : r = -1
 case pos =>
  subst q1
  rw [if_pos rfl]
  by_cases q2 : (ks.length : Int) = 0
  ·have e : ks = [] := List.length_eq_zero_iff.1 (by omega)
   subst e
   have la0 : ∀ h : AHeap, alen h .slice kv = some (.int .i64 0) := la
   simp only [Zab,Zac,Zad,Zai,Zaj,Zak,Zam,Zar,Zay,Zaz,Zbb,Zbg,Zbi,Zbj,Zbk,Zbl,Zbn,Zbo,Zbq,Zby,Zcg,Zcp,Zcq,Zcs,Zcu,Zcv,Zcw,Zcx,Zcz,Zda,Q0,Q8,Q5,Q6,Z1,Z7,Zdl,Zdx,Zdz,Zea,Zeb,decide_true,Q7,Z5,Q1,Q2,if_true,Nat.reduceAdd,Nat.reduceSub,Nat.reduceLeDiff,Int.reduceNeg,eq_self,true_and,Q1,Q2,Z3,Z4,Q3,Q4,aload,acells,getArr,part,Y1,Q9,Z2,Z0,Z8,Z6,Q3,Q4,Q0,la0,tt,z0,Y1,Q2,resAll,resVals,resVal,Z9,Prod.mk.injEq,true_and,W1,Bool.and_true,exists_eq']
  ·simp only [Zab,Zac,Zad,Zai,Zaj,Zak,Zam,Zar,Zay,Zaz,Zbe,Zbh,Zbi,Zbj,Zbk,Zbl,Zbn,Zbo,Zbq,Zby,Zcg,Zcs,Zcu,Zcv,Zcw,Zcx,Q0,Q8,Q5,Q6,Z1,Z7,Zdl,Zdx,Zdz,Zeb,decide_true,decide_false,Q7,Z5,Q1,Q2,if_true,Nat.reduceAdd,Nat.reduceSub,Nat.reduceLeDiff,Int.reduceNeg,eq_self,true_and,Q1,Q2,Z3,Z4,Q3,Q4,aload,acells,getArr,part,Q9,Z2,Z0,Z8,Z6,Q3,Q4,Q0,la,q2,resAll,resVals,resVal,Z9,Prod.mk.injEq,true_and,Y2,exists_eq']
 case neg =>
 rw [if_neg q1]
 by_cases q2 : r < 0
 case pos =>
  rw [if_pos (.inl q2)]
  simp only [Zaa,Zab,Zac,Zad,Zai,Zaj,Zak,Zam,Zar,Zas,Zay,Zaz,Zbd,Zbg,Zbi,Zbj,Zbk,Zbl,Zbn,Zbo,Zbq,Zby,Zcs,Zcu,Zcv,Zcw,Zcx,Q0,Q8,Q5,Q6,Z1,Z7,Zdh,Zdl,Zdx,Zdz,Zeb,decide_true,decide_false,Q7,Z5,Q1,Q2,if_true,Nat.reduceAdd,Nat.reduceSub,Nat.reduceLeDiff,Int.reduceNeg,eq_self,true_and,Q1,Q2,Z3,Z4,Q3,Q4,aload,acells,getArr,part,Q9,Z2,Z0,Z8,Q3,Q4,Q0,q1,q2,resAll,resVals,resVal,Z9,Prod.mk.injEq,true_and,Y2,exists_eq']
 case neg =>
 by_cases q3 : (g.rules.length : Int) ≤ r
 case pos =>
  rw [if_pos (.inr q3)]
  simp only [Zaa,Zab,Zac,Zad,Zai,Zaj,Zak,Zam,Zar,Zas,Zay,Zaz,Zbc,Zbh,Zbi,Zbj,Zbk,Zbl,Zbn,Zbo,Zbq,Zby,Zcg,Zcs,Zcu,Zcv,Zcw,Zcx,Q0,Q8,Q5,Q6,Z1,Z7,Zdh,Zdk,Zdl,Zdt,Zdx,Zdz,Zeb,decide_true,decide_false,Q7,Z5,Q1,Q2,if_true,Nat.reduceAdd,Nat.reduceSub,Nat.reduceLeDiff,Int.reduceNeg,eq_self,true_and,Y7,Q1,Q2,Z3,Z4,Q3,Q4,aload,acells,getArr,part,Q9,Z2,Z0,Z8,Q3,Q4,Q0,q1,q2,q3,resAll,resVals,resVal,Z9,Prod.mk.injEq,true_and,Y2,exists_eq']
 case neg =>
 rw [if_neg (by omega)]
 obtain ⟨k, rfl⟩ : ∃ k : Nat, r = k := ⟨r.toNat, by omega⟩
 have hk : k < g.rules.length := by omega
 have hgk : g.rules[(k : Int).toNat]? = some g.rules[k] := by simp [hk]
 rw [hgk]
 simp only
 obtain ⟨x, hx⟩ : ∃ x, x = g.rules[k] := ⟨_, rfl⟩
 have hxo : x.Ok := by rw [hx]; exact hg.rule _ (W2 hk)
 have ii := fun h => ix_map eRule h 5 false g.rules .i64 k hk rfl
 rw [← hx] at ii ⊢
 have hwl : IntKind.i64.wrap (-1 - x.left) = -1 - x.left := by obtain ⟨a, b⟩ := hxo.left0; exact w64 (by omega) (by omega)
 by_cases q4 : s = -1 - x.left
 case neg =>
  simp only [Zaa,Zab,Zac,Zad,Zai,Zaj,Zak,Zam,Zar,Zas,Zay,Zaz,Zba,Zbc,Zbd,Zbg,Zbh,Zbi,Zbj,Zbk,Zbl,Zbm,Zbn,Zbo,Zbp,Zbq,Zby,Zcb,Zcg,Zcs,Zcu,Zcv,Zcw,Zcx,Zcy,Q0,Q8,Q5,Q6,Z1,Z7,Zdf,Zdh,Zdk,Zdl,Zdm,Zdt,Zdx,Zdz,Zea,Zeb,decide_false,Y9,Q7,Z5,Q1,Q2,if_true,Nat.reduceAdd,Nat.reduceSub,Nat.reduceLeDiff,Int.reduceNeg,eq_self,and_self,true_and,Y7,Q1,Q2,Z3,Z4,Q3,Q4,aload,acells,getArr,part,astore,putCells,Y0,Y1,cellOk,Y5,Q9,Z2,Z0,Z8,Z6,Q3,Q4,Q0,q1,q2,q3,q4,ii,hwl,resAll,resVals,resVal,Z9,Prod.mk.injEq,true_and,Y2,exists_eq']
 case pos =>
 by_cases q5 : (ks.length : Int) = x.right.length
 case neg =>
  have hne : ¬ (ks.map T.sym = x.right) := fun e => q5 (by rw [← e, Y7])
  simp only [Zaa,Zab,Zac,Zad,Zai,Zaj,Zak,Zam,Zar,Zas,Zay,Zaz,Zba,Zbc,Zbh,Zbi,Zbj,Zbk,Zbl,Zbm,Zbn,Zbo,Zbp,Zbq,Zby,Zcb,Zcg,Zcs,Zcu,Zcv,Zcw,Zcx,Zcy,Q0,Q8,Q5,Q6,Z1,Z7,Zdf,Zdh,Zdk,Zdl,Zdm,Zdt,Zdx,Zdz,Zea,Zeb,Zep,decide_true,decide_false,Y8,Y9,Q7,Z5,Q1,Q2,if_true,Nat.reduceAdd,Nat.reduceSub,Nat.reduceLeDiff,Int.reduceNeg,eq_self,and_self,true_and,Y7,Q1,Q2,Z3,Z4,Q3,Q4,aload,acells,getArr,part,astore,putCells,Y0,Y1,cellOk,Y5,Q9,Z2,Z0,Z8,Z6,Q3,Q4,Q0,la,q1,q2,q3,q4,q5,hne,ii,hwl,resAll,resVals,resVal,Z9,Prod.mk.injEq,true_and,Y2,Bool.and_false,exists_eq']
 case pos =>
 have loop : ∀ (d i m : Nat) (c : AV), ks.length = i + d → d < m →
   loopN (evalCode (lim G0.cfg) (ks.length + 1) B_r20_node_0) m ⟨(J::J::.ptr 0 0 0 0 :: .ptr 1 0 0 0::J::.ptr 2 0 0 0 :: .int .i64 i::J::J::J::J::J::J::J::J::J::J::J::J::J::J::J::J::J::J::J::J::J::J::J::J::J::J::J::J::J::J::J::J::J::J::J::J::J::J::J::J::J::J::J::J::J::J::J::J::J::J::J::J::J::J::J::J::J::J::J::J::J::J::J::J::J::J::J::J::J::J::J::J::J::J::[]), [.arr 0 5 true [eGram g], .arr 0 3 true [[c, .int .i64 k, kv]], .arr 0 5 true [eRule x]]⟩ =
    bif decide ((ks.drop i).map T.sym = x.right.drop i) && (ks.drop i).all (nodeB g) then some (.exit 0, ⟨(J::J::J::J::J::J::J::J::J::J::J::J::J::J::J::J::J::J::J::J::J::J::J::J::J::J::J::J::J::J::J::J::J::J::J::J::J::J::J::J::J::J::J::J::J::J::J::J::J::J::J::J::J::J::J::J::J::J::J::J::J::J::J::J::J::J::J::J::J::J::J::J::J::J::J::J::J::J::J::J::J::[]), [.arr 0 5 true [eGram g], .arr 0 3 true [[c, .int .i64 k, kv]], .arr 0 5 true [eRule x]]⟩)
     else some (.ret, ⟨(J::J::J::J::.bool false::J::J::J::J::J::J::J::J::J::J::J::J::J::J::J::J::J::J::J::J::J::J::J::J::J::J::J::J::J::J::J::J::J::J::J::J::J::J::J::J::J::J::J::J::J::J::J::J::J::J::J::J::J::J::J::J::J::J::J::J::J::J::J::J::J::J::J::J::J::J::J::J::J::J::J::J::[]), [.arr 0 5 true [eGram g], .arr 0 3 true [[c, .int .i64 k, kv]], .arr 0 5 true [eRule x]]⟩) := by
  intro d
  induction d with
  | zero =>
   intro i m c h1 h2
   obtain ⟨m, rfl⟩ : ∃ q, m = q + 1 := ⟨m - 1, by omega⟩
   have e1 : ks.drop i = [] := Y6.2 (by omega)
   have e2 : x.right.drop i = [] := Y6.2 (by omega)
   have h3 : ¬ ((i : Int) < ks.length) := by omega
   have e3 : (decide ((ks.drop i).map T.sym = x.right.drop i) && (ks.drop i).all (nodeB g)) = true := by rw [e1, e2]; rfl
   rw [e3]
   simp only [loop_e,EB_r20_node_0,Zab,Zac,Zad,Zag,Zah,Zaj,Zak,Zal,Zas,Zav,Zay,Zbi,Zbk,Zbo,Zbq,Zby,Zcg,Zcv,Zcx,Zdc,Zdd,Q0,Q8,Q5,Q6,Z1,Zdh,Zdx,Zdz,decide_false,Q7,Z5,Q1,Q2,if_true,Nat.reduceAdd,Nat.reduceLeDiff,eq_self,cond_true,aload,acells,getArr,part,Q9,Z2,Z0,Z6,Q0,la,h3]
  | succ d ihd =>
   intro i m c h1 h2
   obtain ⟨m, rfl⟩ : ∃ q, m = q + 1 := ⟨m - 1, by omega⟩
   have h3 : i < ks.length := by omega
   have h3' : (i : Int) < ks.length := by omega
   have h4 : i < x.right.length := by omega
   have e1 : ks.drop i = ks[i] :: ks.drop (i + 1) := Y3 h3
   have e2 : x.right.drop i = x.right[i] :: x.right.drop (i + 1) := Y3 h4
   have hw := w64s (n := i) (by omega)
   have hmem : ks[i] ∈ ks := W2 h3
   obtain ⟨ci, ei, jj⟩ := xa i h3
   have hc := ih ks[i] hmem (okTs_mem hoks hmem) ci ei
   obtain ⟨ki, rfl⟩ := ei.cells
   by_cases hab : (ks[i]).sym = x.right[i]
   case neg =>
    have e3 : (decide ((ks.drop i).map T.sym = x.right.drop i) && (ks.drop i).all (nodeB g)) = false := by rw [e1, e2, List.map_cons]; simp only [List.cons.injEq,hab,false_and,decide_false,Y2]
    rw [e3]
    simp only [loop_e,EB_r20_node_0,Zaa,Zab,Zac,Zad,Zae,Zag,Zai,Zaj,Zak,Zam,Zao,Zar,Zaw,Zay,Zbd,Zbg,Zbi,Zbj,Zbk,Zbl,Zbo,Zbq,Zby,Zcb,Zcg,Zcv,Zcw,Zcx,Zdb,Zdc,Zdd,Q0,Q8,Q5,Q6,Z1,Zdh,Zdm,Zdx,Zdy,Zdz,decide_true,decide_false,Y9,Q7,Z5,Q1,Q2,if_true,Nat.reduceAdd,Nat.reduceLeDiff,eq_self,cond_false,aload,acells,getArr,part,eI,Q9,Z2,Z0,Z8,Z6,Q0,la,h3',jj,ix_eIs _ _ x.right _ i h4,hab]
   case pos =>
   rw [hab] at hc jj
   cases hn : nodeB g ks[i]
   case false =>
    have e3 : (decide ((ks.drop i).map T.sym = x.right.drop i) && (ks.drop i).all (nodeB g)) = false := by rw [e1, Y0, hn]; simp only [Y2,Bool.and_false]
    rw [e3]
    rw [hn] at hc
    simp only [loop_e,EB_r20_node_0,Zaa,Zab,Zac,Zad,Zae,Zag,Zai,Zaj,Zak,Zam,Zao,Zar,Zaw,Zay,Zaz,Zbc,Zbh,Zbi,Zbj,Zbk,Zbl,Zbo,Zbq,Zbr,Zby,Zcb,Zcg,Zcp,Zcq,Zcv,Zcw,Zcx,Zcz,Zda,Zdb,Zdc,Zdd,Q0,Q8,Q5,Q6,Z1,Zdh,Zdm,Zdr,Zdx,Zdy,Zdz,Zea,decide_true,Y8,Y9,Q7,Z5,Q1,Q2,if_true,Nat.reduceAdd,Nat.reduceLeDiff,eq_self,cond_false,aload,acells,getArr,part,eI,Q9,Z2,Z0,Z8,Z6,Q3,Q4,Q0,la,h3',jj,ix_eIs _ _ x.right _ i h4,hc]
   case true =>
    have e3 : (decide ((ks.drop i).map T.sym = x.right.drop i) && (ks.drop i).all (nodeB g)) = (decide ((ks.drop (i + 1)).map T.sym = x.right.drop (i + 1)) && (ks.drop (i + 1)).all (nodeB g)) := by
     rw [e1, e2, List.map_cons, hab, Y0, hn]; simp only [List.cons.injEq,true_and,W1]
    rw [e3, ← ihd (i + 1) m c (by omega) (by omega)]
    rw [hn] at hc
    simp only [loop_e,EB_r20_node_0,Zaa,Zab,Zac,Zad,Zae,Zag,Zaj,Zak,Zan,Zar,Zas,Zau,Zay,Zaz,Zbc,Zbh,Zbi,Zbj,Zbk,Zbl,Zbo,Zbq,Zbr,Zby,Zcb,Zcg,Zcp,Zcq,Zcv,Zcw,Zcx,Zcz,Zda,Zdb,Zdc,Zdd,Q0,Q8,Q5,Q6,Z1,Zde,Zdh,Zdm,Zdr,Zdx,Zdy,Zdz,Zea,decide_true,Y8,Q7,Z5,Q1,Q2,if_true,Nat.reduceAdd,Nat.reduceLeDiff,eq_self,aload,acells,getArr,part,eI,Q9,Z2,Z0,Z8,Z6,Q3,Q4,Q0,la,h3',jj,ix_eIs _ _ x.right _ i h4,hc,hw]
 have e := loop ks.length 0 (ks.length + 1) (.int .i64 s) (by omega) (by omega)
 rw [Q9, Q9, z0] at e
 have hs4 : decide (s = -1 - x.left) = true := by simp [q4]
 rw [hs4, W1]
 rw [q4] at e
 cases q : (decide (ks.map T.sym = x.right) && ks.all (nodeB g))
 ·rw [q] at e
  simp only [cond_false] at e
  simp only [Zaa,Zab,Zac,Zad,Zae,Zaf,Zag,Zaj,Zak,Zam,Zao,Zas,Zat,Zay,Zaz,Zba,Zbc,Zbh,Zbi,Zbj,Zbk,Zbl,Zbm,Zbn,Zbo,Zbp,Zbq,Zby,Zcb,Zcg,Zcs,Zcu,Zcv,Zcw,Zcx,Zcy,Zdb,Zdc,Zdd,Q0,Q8,Q5,Q6,Z1,Z7,Zdf,Zdh,Zdk,Zdl,Zdm,Zdt,Zdx,Zdz,Zea,Zeb,Zep,decide_true,decide_false,Y8,Q7,Z5,Q1,Q2,if_true,Nat.reduceAdd,Nat.reduceSub,Nat.reduceLeDiff,Int.reduceNeg,eq_self,and_self,true_and,Y7,Q1,Q2,Z3,Z4,Q3,Q4,aload,acells,getArr,part,astore,putCells,Y0,Y1,cellOk,Y5,Q9,Z2,Z0,Z8,Z6,Q3,Q4,Q0,la,q1,q2,q3,q4,q5,ii,hwl,e,resAll,resVals,resVal,Z9,Prod.mk.injEq,true_and,exists_eq']
 ·rw [q] at e
  simp only [cond_true] at e
  simp only [Zaa,Zab,Zac,Zad,Zae,Zaf,Zag,Zai,Zaj,Zak,Zap,Zas,Zat,Zay,Zaz,Zba,Zbc,Zbh,Zbi,Zbj,Zbk,Zbl,Zbm,Zbn,Zbo,Zbp,Zbq,Zby,Zcb,Zcg,Zcs,Zcu,Zcv,Zcw,Zcx,Zcy,Zdb,Zdc,Zdd,Q0,Q8,Q5,Q6,Z1,Z7,Zdf,Zdh,Zdk,Zdl,Zdm,Zdt,Zdx,Zdz,Zea,Zeb,Zep,decide_true,decide_false,Y8,Q7,Z5,Q1,Q2,if_true,Nat.reduceAdd,Nat.reduceSub,Nat.reduceLeDiff,Int.reduceNeg,eq_self,and_self,true_and,Y7,Q1,Q2,Z3,Z4,Q3,Q4,aload,acells,getArr,part,astore,putCells,Y0,Y1,cellOk,Y5,Q9,Z2,Z0,Z8,Z6,Q3,Q4,Q0,la,q1,q2,q3,q4,q5,ii,hwl,e,resAll,resVals,resVal,Z9,Prod.mk.injEq,true_and,exists_eq']
theorem r_tRightE (g : GramD) (hg : g.Ok) (t : T) (ht : okT t) (hN : sizeN t ≤ 65536) {c : List AV} (hE : Enc t c) (H : AHeap) : lim G0.cfg (.func 13) [.agg (eGram g), .agg c] H = some (.bool (treeOk g t), H) := by
 refine lim_flat rfl rfl P_r20_Right 1 (fun h => fz_2 (fz_gram g h) (fz_enc hE h)) ?_ (fun _ => rfl) H
 have c1 := r_Right g hg
 have c2 := r_SizeE t ht (by omega) c hE
 have c3 := r_nodeE g hg t ht c hE
 obtain ⟨kv, rfl⟩ := hE.cells
 have q2 : (sizeN t : Int) ≤ 65536 := by omega
 rw [R_r20_Right]
 unfold treeOk
 by_cases q1 : gramErr g = 0
 ·simp only [Zab,Zac,Zai,Zaj,Zak,Zay,Zaz,Zbb,Zbg,Zbi,Zbj,Zbk,Zbl,Zbn,Zbo,Zbq,Zcp,Zcq,Zcs,Zcu,Zcv,Zcw,Zcx,Zcz,Zda,Q0,Q8,Q5,Q6,Z1,Z7,Zdi,Zdl,Zea,Zeb,decide_true,Q7,Z5,Q1,Q2,if_true,Nat.reduceAdd,Nat.reduceSub,Nat.reduceLeDiff,eq_self,true_and,Q1,Q2,Z3,Z4,Q3,Q4,aload,acells,getArr,part,Q9,Z0,Z6,Q3,Q4,Q0,c1,c2,c3,q1,q2,resAll,resVals,resVal,Z9,Prod.mk.injEq,true_and,W1,exists_eq']
 ·simp only [Zab,Zac,Zai,Zaj,Zak,Zay,Zaz,Zbe,Zbh,Zbi,Zbj,Zbk,Zbl,Zbn,Zbo,Zbq,Zcp,Zcq,Zcs,Zcu,Zcv,Zcw,Zcx,Zcz,Zda,Q0,Q8,Q5,Q6,Z1,Z7,Zdl,Zea,Zeb,decide_false,Q7,Q1,Q2,if_true,Nat.reduceAdd,Nat.reduceSub,Nat.reduceLeDiff,eq_self,true_and,Q1,Q2,Z3,Z4,Q3,Q4,aload,acells,getArr,part,Q9,Z0,Z6,Q3,Q4,Q0,c1,q1,resAll,resVals,resVal,Z9,Prod.mk.injEq,true_and,Y2,exists_eq']
theorem r_WholeE (t : T) (ht : okT t) (hs : sizeN t ≤ 1000000) {c : List AV} (hE : Enc t c) (H : AHeap) : lim G0.cfg (.func 30) [.agg c] H = some (.bool (wholeB t), H) := by
 refine lim_flat rfl rfl P_r20_Whole ((yieldT t).length + 1) (fun h => fz_1 (fz_enc hE h)) ?_ (fun _ => rfl) H
 have c1 := r_YieldE t hs c hE
 have hyl := yieldT_len t
 have hct := hE.length
 have htk : List.take 3 c = c := W0 (Nat.le_of_eq hct)
 unfold wholeB
 generalize yieldT t = ys at *
 have ll := fun h => len_encL h ys
 have loop : ∀ (d i m : Nat) (h : AHeap), ys.length = i + d → d < m →
   loopN (evalCode (lim G0.cfg) (ys.length + 1) B_r20_Whole_0) m ⟨[J,J,J, encL ys, .int .i64 i, J,J,J,J,J,J,J,J,J,J,J,J,J], h⟩ =
    (bif (ys.drop i).all (fun s => decide (0 ≤ s)) then some (.exit 0, ⟨[J,J,J,J,J,J,J,J,J,J,J,J,J,J,J,J,J,J], h⟩) else some (.ret, ⟨[J,J, .bool false, J,J,J,J,J,J,J,J,J,J,J,J,J,J,J], h⟩)) := by
  intro d
  induction d with
  | zero =>
   intro i m h h1 h3
   obtain ⟨m, rfl⟩ : ∃ q, m = q + 1 := ⟨m - 1, by omega⟩
   have e1 : ys.drop i = [] := Y6.2 (by omega)
   have h5 : ¬ ((i : Int) < ys.length) := by omega
   rw [e1]
   simp only [loop_e,EB_r20_Whole_0,Zab,Zac,Zad,Zag,Zah,Zaj,Zak,Zal,Zas,Zav,Zay,Zbi,Zbk,Zbq,Zcg,Zcv,Zcx,Zdc,Zdd,Q0,Q8,Q5,Q6,Zdh,decide_false,eq_self,cond_true,Y1,Q0,ll,h5,Y1]
  | succ d ihd =>
   intro i m h h1 h3
   obtain ⟨m, rfl⟩ : ∃ q, m = q + 1 := ⟨m - 1, by omega⟩
   have h5 : i < ys.length := by omega
   have h5' : (i : Int) < ys.length := by omega
   have e1 : ys.drop i = ys[i] :: ys.drop (i + 1) := Y3 h5
   have hw := w64s (n := i) (by omega)
   have xx := fun h => ix_encL h ys .i64 i h5
   rw [e1]
   by_cases q : ys[i] < 0
   case pos =>
    have q' : ¬ (0 ≤ ys[i]) := by omega
    simp only [loop_e,EB_r20_Whole_0,Zaa,Zab,Zac,Zad,Zae,Zag,Zai,Zaj,Zak,Zam,Zao,Zar,Zaw,Zay,Zbi,Zbk,Zbo,Zbq,Zcb,Zcg,Zcv,Zcw,Zcx,Zdb,Zdc,Zdd,Q0,Q8,Q5,Q6,Z1,Zdh,Zdz,decide_true,decide_false,Q1,Q2,if_true,Nat.reduceAdd,Nat.reduceLeDiff,eq_self,cond_false,aload,acells,part,eI,Y0,Q9,Z0,Z6,Q0,ll,h5',xx,q,q',Y0,Y2]
   case neg =>
    have q' : 0 ≤ ys[i] := by omega
    have e := ihd (i + 1) m h (by omega) (by omega)
    simp only [Y0,q',decide_true,W1]
    rw [← e]
    simp only [loop_e,EB_r20_Whole_0,Zaa,Zab,Zac,Zad,Zae,Zag,Zaj,Zak,Zan,Zar,Zas,Zau,Zay,Zbi,Zbk,Zbo,Zbq,Zcb,Zcg,Zcv,Zcw,Zcx,Zdb,Zdc,Zdd,Q0,Q8,Q5,Q6,Z1,Zde,Zdh,Zdz,decide_true,decide_false,Q1,Q2,if_true,Nat.reduceAdd,Nat.reduceLeDiff,eq_self,aload,acells,part,eI,Q9,Z0,Z6,Q0,ll,h5',xx,q,hw]
 have e := fun h => loop ys.length 0 (ys.length + 1) h (by omega) (by omega)
 simp only [Q9,z0] at e
 rw [R_r20_Whole]
 cases q : ys.all (fun s => decide (0 ≤ s))
 all_goals
  rw [q] at e
  simp only [cond_true,cond_false] at e
  simp only [Zab,Zac,Zae,Zaf,Zag,Zai,Zaj,Zak,Zam,Zao,Zap,Zat,Zay,Zaz,Zbi,Zbk,Zbn,Zbo,Zcp,Zcq,Zcs,Zcu,Zcv,Zcw,Zcx,Zcz,Zda,Zdb,Zdc,Zdd,Q0,Q8,Q5,Q6,Z1,Z7,Zea,Zeb,Q7,Q1,Q2,if_true,Nat.reduceAdd,Nat.reduceSub,Nat.reduceLeDiff,eq_self,true_and,Q1,Q2,Z3,Z4,Q3,Q4,aload,acells,getArr,part,Q9,Q3,Q4,Q0,hct,htk,c1,e,resAll,resVals,resVal,Z9,Prod.mk.injEq,true_and,exists_eq']
structure YldE {X : Type} (N : Nat) (cnt : X → Nat) (l : Nat) (Inv Stop : X → AHeap → Prop) (step : X → T → X × Bool) : Prop where
 app : ∀ x h o, Inv x h → Inv x (h ++ [o])
 cs : ∀ x t, cnt (step x t).1 ≤ cnt x + 1
 y : ∀ x h t c, okT t → Enc t c → cnt x < N → Inv x h → ∃ h', lim G0.cfg (.yield l) [.agg c] h = some (.bool (step x t).2, h') ∧ Fr3 h h' ∧ (if (step x t).2 = true then Inv (step x t).1 h' else Stop (step x t).1 h')
section
variable {X : Type} {N : Nat} {cnt : X → Nat} {l : Nat} {Inv Stop : X → AHeap → Prop} {step : X → T → X × Bool}
theorem f_walkE (hy : YldE N cnt l Inv Stop step) : ∀ t, okT t → ∀ c, Enc t c → ∀ x h, cnt x + sizeN t ≤ N → Inv x h → ∃ h', lim G0.cfg (.func 73) [.agg c, .fn (.yield l) [] []] h = some (.bool (runP step x (post t)).2, h') ∧ WalkOk Inv Stop (runP step x (post t)) h h' := by
 intro t
 induction t using T.ind with
 | _ s r ks ih =>
 intro hok c hE x h hN hI
 have hE0 := hE
 obtain ⟨kv, rfl, la, xa, _⟩ := hE.open
 have hsz : sizeN (.node s r ks) = 1 + sizeNs ks := by simp [sizeN]
 obtain ⟨hs, hr, hlen, hoks⟩ := id hok
 rw [maxLen_eq] at hlen
 obtain ⟨b, hb⟩ : ∃ b, b = h.length := ⟨_, rfl⟩
 obtain ⟨box, hbox⟩ : ∃ box : AObj, box = .arr 0 3 true [[.int .i64 s, .int .i64 r, kv]] := ⟨_, rfl⟩
 have loop : ∀ (d i m : Nat) (x : X) (h : AHeap), ks.length = i + d → d < m → cnt x + sizeNs (ks.drop i) ≤ N → Inv x h → h[b]? = some box → ∃ h',
   loopN (evalCode (lim G0.cfg) (ks.length + 1) B_tree_walk_0) m ⟨[J, .fn (.yield l) [] [], .ptr b 0 0 0, J,J,J,J,J, kv, .int .i64 ks.length, .int .i64 i, J,J,J,J,J,J,J,J,J,J,J], h⟩ =
    (bif (runP step x (posts (ks.drop i))).2 then some (.exit 0, ⟨[J, .fn (.yield l) [] [], .ptr b 0 0 0, J,J,J,J,J,J,J,J,J,J,J,J,J,J,J,J,J,J,J], h'⟩) else some (.ret, ⟨[J,J,J,J, .bool false, J,J,J,J,J,J,J,J,J,J,J,J,J,J,J,J,J], h'⟩)) ∧
    WalkOk Inv Stop (runP step x (posts (ks.drop i))) h h' := by
  intro d
  induction d with
  | zero =>
   intro i m x h h1 h2 hN hI hbx
   obtain ⟨m, rfl⟩ : ∃ q, m = q + 1 := ⟨m - 1, by omega⟩
   have e1 : ks.drop i = [] := Y6.2 (by omega)
   have h3 : ¬ ((i : Int) < ks.length) := by omega
   rw [e1]
   exact ⟨h, by simp only [loop_e,EB_tree_walk_0,Zab,Zac,Zad,Zag,Zah,Zaj,Zak,Zal,Zas,Zav,Zay,Zbi,Zbq,Zcv,Zcx,Zdb,Zdc,Zdd,Q0,Q8,Q5,Q6,Zdh,decide_false,eq_self,cond_true,h3,posts,runP], Fr3.refl h, hI⟩
  | succ d ihd =>
   intro i m x h h1 h2 hN hI hbx
   obtain ⟨m, rfl⟩ : ∃ q, m = q + 1 := ⟨m - 1, by omega⟩
   have h3 : i < ks.length := by omega
   have h3' : (i : Int) < ks.length := by omega
   have e1 : ks.drop i = ks[i] :: ks.drop (i + 1) := Y3 h3
   have hw := w64s (n := i) (by omega)
   have hmem : ks[i] ∈ ks := W2 h3
   rw [e1] at hN
   simp only [sizeNs] at hN
   obtain ⟨ci, ei, ii⟩ := xa i h3
   obtain ⟨h', hc, k2, k3⟩ := ih ks[i] hmem (okTs_mem hoks hmem) ci ei x (h ++ [.arr 0 3 true [ci]]) (by omega) (hy.app x h _ hI)
   have hfr : Fr3 h h' := (Fr3.app h _).trans k2
   obtain ⟨ki, rfl, hki⟩ := ei.kv3
   rw [e1]
   simp only [posts]
   rw [runP_app]
   cases q : (runP step x (post ks[i])).2
   case false =>
    rw [q] at hc
    simp only [q,Y4,if_false] at k3
    refine ⟨h', ?_, hfr, by simpa only [q, Y4, if_false] using k3⟩
    rcases hki with rfl | ⟨_, _, rfl⟩ <;> simp only [loop_e,EB_tree_walk_0,Zaa,Zab,Zac,Zad,Zae,Zag,Zai,Zaj,Zak,Zam,Zao,Zar,Zaw,Zay,Zaz,Zba,Zbi,Zbk,Zbm,Zbo,Zbp,Zbq,Zbr,Zcb,Zcp,Zcq,Zcv,Zcw,Zcx,Zcy,Zcz,Zda,Zdb,Zdc,Zdd,Q0,Q8,Q5,Q6,Z1,Zdh,Zdr,Zea,Zeb,decide_true,Y9,Q7,Q1,Q2,if_true,if_false,Nat.reduceAdd,Nat.reduceLeDiff,eq_self,and_self,cond_false,aload,acells,getArr,part,astore,putCells,get_new,set_new,Y0,Y1,cellOk,Y5,Q9,Z2,Z0,Z8,Z6,Q3,Q4,Q0,h3',ii,hc,q,Y4]
   case true =>
    rw [q] at hc
    simp only [q,if_true] at k3
    obtain ⟨h'', e, m2, m3⟩ := ihd (i + 1) m _ h' (by omega) (by omega) (by have := runP_cnt hy.cs (post ks[i]) x; rw [post_len] at this; omega) k3 (by rw [hbox]; exact hfr b _ (hbox ▸ hbx))
    refine ⟨h'', ?_, hfr.trans m2, by simpa only [q, if_true] using m3⟩
    simp only [if_true, ← e]
    rcases hki with rfl | ⟨_, _, rfl⟩ <;> simp only [loop_e,EB_tree_walk_0,Zaa,Zab,Zac,Zad,Zae,Zag,Zaj,Zak,Zan,Zar,Zas,Zau,Zay,Zaz,Zba,Zbi,Zbk,Zbm,Zbo,Zbp,Zbq,Zbr,Zcb,Zcp,Zcq,Zcv,Zcw,Zcx,Zcy,Zcz,Zda,Zdb,Zdc,Zdd,Q0,Q8,Q5,Q6,Z1,Zde,Zdh,Zdr,Zea,Zeb,decide_true,Y8,Q7,Q1,Q2,if_true,Nat.reduceAdd,Nat.reduceLeDiff,eq_self,and_self,aload,acells,getArr,part,astore,putCells,get_new,set_new,Y0,Y1,cellOk,Y5,Q9,Z2,Z0,Z8,Z6,Q3,Q4,Q0,h3',ii,hc,hw]
 obtain ⟨h1, e, m2, m3⟩ := loop ks.length 0 (ks.length + 1) x (h ++ [box]) (by omega) (by omega) (by rw [Q9]; omega) (hy.app x h _ hI) (by rw [hb]; simp)
 rw [Q9, z0] at e
 rw [Q9] at m3
 have hfr : Fr3 h h1 := (Fr3.app h _).trans m2
 have hbx1 : h1[b]? = some box := by rw [hbox]; exact m2 b _ (by rw [hb, hbox]; simp)
 have ep : post (.node s r ks) = posts ks ++ [.node s r ks] := by simp [post]
 rw [ep, runP_app]
 cases q : (runP step x (posts ks)).2
 case false =>
  rw [q] at e
  simp only [cond_false] at e
  simp only [q,Y4,if_false] at m3
  refine ⟨h1, lim_func rfl P_tree_walk (ks.length + 1) ?_, hfr, by simpa only [q, Y4, if_false] using m3⟩
  rw [R_tree_walk]
  rw [hbox, hb] at e
  simp only [Zab,Zac,Zae,Zaf,Zag,Zaj,Zak,Zam,Zao,Zat,Zay,Zaz,Zbi,Zbk,Zbn,Zbo,Zby,Zcg,Zcs,Zcu,Zcv,Zcw,Zcx,Zdb,Zdc,Zdd,Q0,Q8,Q5,Q6,Z1,Z7,Zdx,Zdz,Zeb,Q7,Q1,Q2,if_true,if_false,Nat.reduceAdd,Nat.reduceSub,Nat.reduceLeDiff,eq_self,Q1,Q2,Z3,Z4,Q3,Q4,aload,acells,getArr,part,get_new,Q9,Z2,Z0,Z6,Q3,Q4,Q0,la,e,q,Y4,resAll,resVals,resVal]
 case true =>
  rw [q] at e
  simp only [cond_true] at e
  simp only [q,if_true] at m3
  obtain ⟨h2, hc, k2, k3⟩ := hy.y _ h1 (.node s r ks) _ hok hE0 (by have := runP_cnt hy.cs (posts ks) x; rw [posts_len] at this; omega) m3
  have er : runP step (runP step x (posts ks)).1 [.node s r ks] = step (runP step x (posts ks)).1 (.node s r ks) := by
   simp only [runP]
   cases h : step (runP step x (posts ks)).1 (.node s r ks) with
   | mk a c => cases c <;> simp
  simp only [if_true,er]
  refine ⟨h2, lim_func rfl P_tree_walk (ks.length + 1) ?_, hfr.trans k2, k3⟩
  rw [R_tree_walk]
  rw [hbox] at e hbx1
  rw [hb] at e hbx1
  simp only [Zab,Zac,Zae,Zaf,Zag,Zai,Zaj,Zak,Zap,Zat,Zay,Zaz,Zbi,Zbk,Zbn,Zbo,Zby,Zcg,Zcp,Zcr,Zcs,Zcu,Zcv,Zcw,Zcx,Zcz,Zda,Zdb,Zdc,Zdd,Q0,Q8,Q5,Q6,Z1,Z7,Zdx,Zdz,Zea,Zeb,Q7,Q1,Q2,if_true,Nat.reduceAdd,Nat.reduceSub,Nat.reduceLeDiff,eq_self,Q1,Q2,Z3,Z4,Q3,Q4,aload,acells,getArr,part,get_new,Q9,Z2,Z0,Z6,Q3,Q4,Q0,la,e,hbx1,hc,resAll,resVals,resVal]
end
theorem f_nodesItE {t : T} {c : List AV} (hE : Enc t c) (h : AHeap) : lim G0.cfg (.func 34) [.agg c] h = some (.fn (.func 72) [] [.ptr h.length 0 0 0], h ++ [.arr 0 3 true [c]]) := by
 refine lim_func rfl P_tree_nodes 1 ?_
 rw [R_tree_nodes]
 have hct := hE.length
 simp only [Zab,Zac,Zai,Zaj,Zak,Zaz,Zbi,Zbk,Zbn,Zbt,Zcs,Zcu,Zcv,Zcw,Zcx,Zcz,Zda,Q0,Q8,Q5,Q6,Z7,Zeb,Q1,Q2,if_true,Nat.reduceAdd,Nat.reduceSub,eq_self,Q1,Q2,Z3,Z4,Q3,Q4,Q3,Q4,Q0,hct,resAll,resVals,resVal]
theorem f_nodesIt_1E {X : Type} {N : Nat} {cnt : X → Nat} {l : Nat} {Inv Stop : X → AHeap → Prop} {step : X → T → X × Bool} (hy : YldE N cnt l Inv Stop step) (t : T) (ht : okT t) {c : List AV} (hE : Enc t c) (x : X) (h : AHeap) (hN : cnt x + sizeN t ≤ N) (hI : Inv x h) (b : Nat) (hb : h[b]? = some (.arr 0 3 true [c])) :
  ∃ h', lim G0.cfg (.func 72) [.fn (.yield l) [] [], .ptr b 0 0 0] h = some (.tup [], h') ∧ WalkOk Inv Stop (runP step x (post t)) h h' := by
 obtain ⟨h', e, k⟩ := f_walkE hy t ht c hE x h hN hI
 refine ⟨h', lim_func rfl P_tree_nodes_1 1 ?_, k⟩
 rw [R_tree_nodes_1]
 have hct := hE.length
 have htk : List.take 3 c = c := W0 (Nat.le_of_eq hct)
 simp only [Zab,Zaj,Zay,Zaz,Zbi,Zbk,Zbo,Zcp,Zcq,Zct,Zcv,Zcw,Zcx,Zcz,Zda,Q0,Q8,Q5,Q6,Z1,Z7,Zea,Q7,Q1,Q2,if_true,Nat.reduceAdd,Nat.reduceSub,Nat.reduceLeDiff,eq_self,Q1,Q2,Z3,Z4,Q3,Q4,aload,acells,getArr,part,Q9,Q3,Q4,Q0,hb,hct,htk,e,resAll,resVals]
theorem yld_YieldE : YldE 1000000 List.length 3 InvYield (fun _ _ => False) stepYield where
 app := fun x h o hI => by
  obtain ⟨⟨v, h1, ho⟩, h3⟩ := hI
  exact ⟨⟨v, get_app h1 _, ho.app _⟩, get_app h3 _⟩
 cs := fun x t => by simp only [stepYield]; split <;> simp
 y := fun ys h t c0 ht hE hn hI => by
  obtain ⟨⟨v, h1, ho⟩, h3⟩ := hI
  have hl3 := get_len h3
  obtain ⟨hv1, hv2⟩ := ho.cell
  obtain ⟨kv, hk, hkv⟩ := hE.kv3
  obtain ⟨box, hbox⟩ : ∃ box : AObj, box = .arr 0 3 true [[.int .i64 t.sym, .int .i64 t.rule, kv]] := ⟨_, rfl⟩
  have hbx : (h ++ [box])[h.length]? = some box := get_new h box
  obtain ⟨busy, hbusy⟩ : ∃ o : AObj, o = .loop .busy none TYield [7] RA_tree_Yield_0 RB_tree_Yield_0 := ⟨_, rfl⟩
  have h3a : (h ++ [box])[3]? = some (.loop .ready none TYield [7] RA_tree_Yield_0 RB_tree_Yield_0) := get_app h3 _
  have hb1 : ((h ++ [box]).set 3 busy)[1]? = some (.arr 0 1 true [[v]]) := get_set_ne (get_app h1 _) (by omega)
  have hb3 : ((h ++ [box]).set 3 busy)[3]? = some busy := get_set_eq h3a
  have hbb : ((h ++ [box]).set 3 busy)[h.length]? = some box := get_set_ne hbx (by omega)
  have hob : Own ys v ((h ++ [box]).set 3 busy) := (ho.app _).set h3a (fun _ _ e => by cases e) _
  have hfr : Fr3 h ((h ++ [box]).set 3 busy) := (Fr3.app h _).trans (Fr3.set h3a (fun _ e => by cases e) _)
  generalize hB : (h ++ [box]).set 3 busy = hb at *
  have a1 : evalCode (lim G0.cfg) 1 RA_tree_Yield_0 ⟨setAll TYield [7] [.agg c0], h⟩ = some (.normal, ⟨[J,J,J, .ptr 1 0 0 0, .ptr h.length 0 0 0, J,J, .agg c0, J,J,J,J,J,J,J,J,J], h ++ [box]⟩) := by
   rw [eval_e, ERA_tree_Yield_0, hbox, hk]
   rcases hkv with rfl | ⟨_, _, rfl⟩ <;> simp only [setAll,Zab,Zac,Zag,Zaj,Zak,Zax,Zba,Zbi,Zbm,Zbp,Zcv,Zcx,Zcy,Zdb,Zdc,Zdd,Q0,Q8,Q5,Q6,Zeb,Q7,Q1,Q2,if_true,Nat.reduceAdd,Nat.reduceLeDiff,eq_self,and_self,getArr,astore,putCells,get_new,set_new,Y0,Y1,cellOk,Y5,Q9,Z2,Z8,Q3,Q4,Q0]
  have hcond : (stepYield ys t).1 = ys ++ (if t.rule = -1 then [t.sym] else []) := rfl
  have key : ∃ (v' : AV) (h2 : AHeap), evalCode (lim G0.cfg) 1 RB_tree_Yield_0 ⟨[J,J,J, .ptr 1 0 0 0, .ptr h.length 0 0 0, J,J, .agg c0, J,J,J,J,J,J,J,J,J], hb⟩ = some (.normal, ⟨[J,J,J, .ptr 1 0 0 0, J,J,J,J,J,J,J,J,J,J,J,J,J], h2⟩) ∧
    h2[1]? = some (.arr 0 1 true [[v']]) ∧ Own (stepYield ys t).1 v' h2 ∧ h2[3]? = some busy ∧ Fr3 hb h2 := by
   rw [hbox] at hbb
   by_cases q : t.rule = -1
   case neg =>
    refine ⟨v, hb, ?_, hb1, ?_, hb3, Fr3.refl _⟩
    ·rw [eval_e, ERB_tree_Yield_0]
     simp only [Zaa,Zab,Zac,Zad,Zae,Zag,Zaj,Zak,Zan,Zas,Zax,Zay,Zbi,Zbo,Zbq,Zby,Zcv,Zcw,Zcx,Zdb,Zdc,Zdd,Q0,Q8,Q5,Q6,Z1,Zdl,Zdx,Zdz,decide_false,Q7,Q1,Q2,if_true,Nat.reduceAdd,Nat.reduceLeDiff,Int.reduceNeg,eq_self,aload,acells,getArr,part,Q9,Z2,Z0,Z8,Q0,hbb,q]
    ·rw [hcond, if_neg q, List.append_nil]; exact hob
   case pos =>
    obtain ⟨v', h2, a, b, c⟩ := hob.append (zs := [t.sym]) (elems_one hb true t.sym) (by simp; omega)
    obtain ⟨i, ver, hv'⟩ := b.hsl (by simp)
    have c1 := c 1 _ hb1 (fun _ _ e => by cases e)
    have c3 : h2[3]? = some busy := c 3 _ hb3 (fun _ _ e => by rw [hbusy] at e; cases e)
    refine ⟨v', h2.set 1 (.arr 0 1 true [[v']]), ?_, get_set_eq c1, ?_, get_set_ne c3 (by omega), c.fr3.trans (Fr3.set c1 (fun _ e => by cases e) _)⟩
    ·rw [eval_e, ERB_tree_Yield_0]
     subst hv'
     simp only [Zab,Zac,Zad,Zae,Zag,Zaj,Zak,Zan,Zar,Zax,Zay,Zaz,Zba,Zbi,Zbo,Zbp,Zbq,Zby,Zci,Zcn,Zcv,Zcw,Zcx,Zcy,Zdb,Zdc,Zdd,Q0,Q8,Q5,Q6,Z1,Zdl,Zdx,Zdz,Zeg,decide_true,Q7,Q1,Q2,if_true,Nat.reduceAdd,Nat.reduceLeDiff,Int.reduceNeg,eq_self,and_self,aload,acells,getArr,part,astore,putCells,Y0,Y1,cellOk,Y5,Q9,Z2,Z0,Z8,Z6,Q3,Q4,Q0,hbb,q,hb1,ev2,lit_one,a,c1]
    ·rw [hcond, if_pos q]; exact b.set c1 (fun _ _ e => by cases e) _
  obtain ⟨v', h2, a2, b1, b2, b3, b4⟩ := key
  rw [← hB, hbusy] at a2
  rw [hbusy] at b3
  refine ⟨_, yield_run h3 rfl a1 h3a a2 b3, ?_, ?_⟩
  ·exact (hfr.trans b4).trans (Fr3.set b3 (fun _ e => by cases e) _)
  ·exact ⟨⟨v', get_set_ne b1 (by omega), b2.set b3 (fun _ _ e => by cases e) _⟩, get_set_eq b3⟩
theorem f_YieldE (t : T) (ht : okT t) (hs : sizeN t ≤ 1000000) {c0 : List AV} (hE : Enc t c0) (H : AHeap) : lim G0.cfg (.func 17) [.agg c0] H = some (encL (yieldT t), H) := by
 have hct := hE.length
 have htk : List.take 3 c0 = c0 := W0 (Nat.le_of_eq hct)
 obtain ⟨h', e, k1, k2⟩ := f_nodesIt_1E yld_YieldE t ht hE [] [.arr 0 3 true [c0], .arr 0 1 true [[.nilS]], .arr 0 3 true [c0], .loop .ready none TYield [7] RA_tree_Yield_0 RB_tree_Yield_0] (by simp; omega) ⟨⟨_, rfl, Own.nil _⟩, rfl⟩ 2 rfl
 rw [run_Yield, yield_post] at k2
 simp only [if_true,Q4] at k2
 obtain ⟨⟨v, kv, ko⟩, kl⟩ := k2
 have er := fun (F : Out → St → Option (AV × AHeap)) (fs : List Fr) => e_range (n := 1) (F := F) (fs := fs) (f := .t 6) (ps := [7]) (asg := RA_tree_Yield_0) (body := RB_tree_Yield_0) (t := TYield) (h := [.arr 0 3 true [c0], .arr 0 1 true [[.nilS]], .arr 0 3 true [c0]]) (g := 72) (first := []) (caps := [.ptr 2 0 0 0]) rfl e kl (by simp)
 have g1 := get_set_ne (i := 3) (y := AObj.loop .exhausted none TYield [7] RA_tree_Yield_0 RB_tree_Yield_0) kv (by omega)
 have go := ko.set kl (fun _ _ e => by cases e) (.loop .exhausted none TYield [7] RA_tree_Yield_0 RB_tree_Yield_0)
 have ni := f_nodesItE hE [.arr 0 3 true [c0], .arr 0 1 true [[.nilS]]]
 obtain ⟨c, hfz⟩ := go.freeze
 refine lim_at rfl rfl P_tree_Yield 1 (fun h => fz_1 (fz_enc hE h)) ?_ hfz H
 rw [R_tree_Yield]
 simp only [Zab,Zac,Zae,Zag,Zai,Zaj,Zak,Zan,Zay,Zaz,Zbi,Zbk,Zbm,Zbn,Zbo,Zcp,Zcq,Zcs,Zcu,Zcv,Zcw,Zcx,Zcz,Zda,Zdb,Zdc,Zdd,Q0,Q8,Q5,Q6,Z1,Z7,Zdz,Zea,Zeb,Q7,Q1,Q2,if_true,Nat.reduceAdd,Nat.reduceSub,Nat.reduceLeDiff,eq_self,Q1,Q2,Z3,Z4,Q3,Q4,aload,acells,getArr,part,Q9,Z0,Z6,Q3,Q4,Q0,hct,htk,ni,er,Option.getD_none,Q1,g1,resAll,resVals,resVal]
end Go.Proofs.Ytkimloceaihplaa.Ai
namespace Go.Proofs.Ytkimloceaihplaa.Ai
open Go Go.Proofs
open List renaming set_cons_zero → Q0, length_cons → Q1, cons_append → Q2, length_nil → Q3, nil_append → Q4, getElem?_cons_zero → Q5, getElem?_cons_succ → Q6, getD_cons_zero → Q7, getD_cons_succ → Q8, replicate_succ → Q9, replicate_zero → Z0, take_succ_cons → Z1, set_cons_succ → Z2, drop_zero → Z6, take_nil → Z7, take_zero → Z9
open Option.some renaming injEq → Z3
open Option renaming bind_some → Z4, map_some → Z5
open Bool renaming not_true → Z8, not_false → Y0
set_option linter.unusedVariables false
set_option linter.unusedSimpArgs false
set_option maxRecDepth 10000
set_option maxHeartbeats 4000000
theorem f_TreeLeast (g : GramD) (hg : g.Ok) (t : T) (ht : okT t) (H : AHeap) : lim G0.cfg (.func 8) [.agg (eGram g), .agg (cT t)] H = some (.bool true, H) := by
 refine lim_flat rfl rfl P_l20_TreeLeast 1 (fun h => fz_2 (fz_gram g h) (fz_tree t h)) ?_ (fun _ => rfl) H
 obtain ⟨fw, c1⟩ := f_Few g hg
 have c2 := f_nodes t ht 200 (by omega) (by omega)
 have z200 : ((200 : Nat) : Int) = 200 := rfl
 rw [z200] at c2
 have hk := knows
 have hct := cT_eq t
 rw [R_l20_TreeLeast]
 simp only [hct] at c2
 cases fw
 case false => simp only [Zab,Zac,Zad,Zai,Zaj,Zak,Zam,Zar,Zay,Zaz,Zbd,Zbg,Zbi,Zbj,Zbk,Zbl,Zbn,Zbo,Zbr,Zcp,Zcq,Zcs,Zcu,Zcv,Zcw,Zcx,Zcz,Zda,Q0,Z2,Q7,Q8,Z4,Z5,Zdr,Zea,Zeb,Y0,Q5,Q1,Q3,if_true,Nat.reduceAdd,Nat.reduceSub,Nat.reduceLeDiff,eq_self,true_and,Q1,Q3,Q9,Z0,Q2,Q4,aload,acells,getArr,part,Z6,Z1,Z7,Q2,Q4,Q0,hct,c1,hk,resAll,resVals,resVal,Z3,Prod.mk.injEq,true_and,exists_eq']
 case true =>
 by_cases q : 200 ≤ sizeN t
 case pos =>
  have e : (200 : Int) ≤ ((min (sizeN t) 200 : Nat) : Int) := by omega
  simp only [Zab,Zac,Zad,Zai,Zaj,Zak,Zam,Zar,Zay,Zaz,Zbc,Zbd,Zbg,Zbh,Zbi,Zbj,Zbk,Zbl,Zbn,Zbo,Zbq,Zbr,Zcp,Zcq,Zcs,Zcu,Zcv,Zcw,Zcx,Zcz,Zda,Q0,Z2,Q7,Q8,Z4,Z5,Zdk,Zdr,Zea,Zeb,decide_true,Z8,Q5,Q6,Q1,Q3,if_true,Nat.reduceAdd,Nat.reduceSub,Nat.reduceLeDiff,eq_self,true_and,Q1,Q3,Q9,Z0,Q2,Q4,aload,acells,getArr,part,Z6,Z1,Z7,Q2,Q4,Q0,hct,c1,c2,e,hk,resAll,resVals,resVal,Z3,Prod.mk.injEq,true_and,exists_eq']
 case neg =>
 have e : ¬ ((200 : Int) ≤ ((min (sizeN t) 200 : Nat) : Int)) := by omega
 have hi : inI64 t.sym := by
  obtain ⟨s, r, ks⟩ := t
  exact ht.1
 obtain ⟨s, hs⟩ : ∃ s, s = t.sym := ⟨_, rfl⟩
 have d1 := r_tRight g hg t ht (by omega)
 have d2 := r_Whole t ht (by omega)
 have d3 := f_Yield t ht (by omega)
 simp only [hct] at d1 d2 d3
 rw [← hs] at hct c2 d1 d2 d3 hi
 by_cases h0 : gramErr g = 0
 case neg =>
  have cs := f_short (y := []) (xy := .nilS) (.inl ⟨rfl, rfl⟩) (r_MinYields_bad g hg h0) (by simp) hi
  have q1 : treeOk g t = false := by
   unfold treeOk
   rw [decide_eq_false h0]; rfl
  rw [q1] at d1
  cases hb : (decide (0 ≤ s) || (decide (s < -((([] : List Int).length : Nat) : Int)) || decide (([] : List Int).getD (nx s) (-1) < 40)))
  all_goals
   rw [hb] at cs
   simp only [Zab,Zac,Zad,Zai,Zaj,Zak,Zam,Zar,Zay,Zaz,Zbc,Zbd,Zbg,Zbh,Zbi,Zbj,Zbk,Zbl,Zbn,Zbo,Zbq,Zbr,Zby,Zcp,Zcq,Zcs,Zcu,Zcv,Zcw,Zcx,Zcz,Zda,Q0,Z2,Q7,Q8,Z4,Z5,Zdk,Zdr,Zdx,Zdz,Zea,Zeb,decide_false,Z8,Y0,Q5,Q6,Q1,Q3,if_true,Nat.reduceAdd,Nat.reduceSub,Nat.reduceLeDiff,eq_self,true_and,Q1,Q3,Q9,Z0,Q2,Q4,aload,acells,getArr,part,Z6,Z1,Z9,Z7,Q2,Q4,Q0,hct,c1,c2,e,cs,d1,hk,resAll,resVals,resVal,Z3,Prod.mk.injEq,true_and,exists_eq']
 case pos =>
 have hr : GramR g := ⟨hg, good_of h0⟩
 obtain ⟨L, w, ⟨kL, hL⟩, hl, ok, mc⟩ := f_costs hr
 obtain ⟨y, xy, ⟨ky, hY⟩, hy, my⟩ := r_MinYields hr h0
 have F0 := fix_of hr.vr hL hY
 have ly := F0.lenY
 have yok : YOk g.nonterms.length y := steps_inv (YOk g.nonterms.length) (fun l l' r hr' h1 h2 => (yUpd_ok hr.vr hr' h1 h2).1) _ _ _ hY ⟨by simp, fun c hc => .inl (List.eq_of_mem_replicate hc)⟩
 have yb : ∀ c ∈ y, -1 ≤ c ∧ c ≤ most := fun c hc => by
  have := yok.rng c hc
  have fm : most = 1000000 := rfl
  omega
 obtain ⟨h, xh, ⟨kh, hH⟩, hh, hok, mh⟩ := r_Heights hr hy ly yb my
 have F := fix3_of hr.vr F0 hL hH
 have nt := hr.good.nt
 have cs := f_short hy my (by omega) hi
 cases hb : (decide (0 ≤ s) || (decide (s < -(y.length : Int)) || decide (y.getD (nx s) (-1) < 40)))
 case false =>
  rw [hb] at cs
  simp only [Zab,Zac,Zad,Zai,Zaj,Zak,Zam,Zar,Zay,Zaz,Zbc,Zbd,Zbg,Zbh,Zbi,Zbj,Zbk,Zbl,Zbn,Zbo,Zbq,Zbr,Zby,Zcp,Zcq,Zcs,Zcu,Zcv,Zcw,Zcx,Zcz,Zda,Q0,Z2,Q7,Q8,Z4,Z5,Zdk,Zdr,Zdx,Zdz,Zea,Zeb,decide_false,Z8,Y0,Q5,Q6,Q1,Q3,if_true,Nat.reduceAdd,Nat.reduceSub,Nat.reduceLeDiff,eq_self,true_and,Q1,Q3,Q9,Z0,Q2,Q4,aload,acells,getArr,part,Z6,Z1,Z9,Z7,Q2,Q4,Q0,hct,c1,c2,e,cs,hk,resAll,resVals,resVal,Z3,Prod.mk.injEq,true_and,exists_eq']
 case true =>
 rw [hb] at cs
 simp only [Bool.or_eq_true,decide_eq_true_eq] at hb
 cases q1 : treeOk g t
 case false =>
  rw [q1] at d1
  simp only [Zab,Zac,Zad,Zai,Zaj,Zak,Zam,Zar,Zay,Zaz,Zbc,Zbd,Zbg,Zbh,Zbi,Zbj,Zbk,Zbl,Zbn,Zbo,Zbq,Zbr,Zby,Zcp,Zcq,Zcs,Zcu,Zcv,Zcw,Zcx,Zcz,Zda,Q0,Z2,Q7,Q8,Z4,Z5,Zdk,Zdr,Zdx,Zdz,Zea,Zeb,decide_false,Z8,Y0,Q5,Q6,Q1,Q3,if_true,Nat.reduceAdd,Nat.reduceSub,Nat.reduceLeDiff,eq_self,true_and,Q1,Q3,Q9,Z0,Q2,Q4,aload,acells,getArr,part,Z6,Z1,Z9,Z7,Q2,Q4,Q0,hct,c1,c2,e,cs,d1,hk,resAll,resVals,resVal,Z3,Prod.mk.injEq,true_and,exists_eq']
 case true =>
 rw [q1] at d1
 cases q3 : wholeB t
 case false =>
  rw [q3] at d2
  simp only [Zab,Zac,Zad,Zai,Zaj,Zak,Zam,Zar,Zay,Zaz,Zbc,Zbh,Zbi,Zbj,Zbk,Zbl,Zbn,Zbo,Zbq,Zbr,Zby,Zcp,Zcq,Zcs,Zcu,Zcv,Zcw,Zcx,Zcz,Zda,Q0,Z2,Q7,Q8,Z4,Z5,Zdk,Zdr,Zdx,Zdz,Zea,Zeb,decide_false,Z8,Y0,Q5,Q6,Q1,Q3,if_true,Nat.reduceAdd,Nat.reduceSub,Nat.reduceLeDiff,eq_self,true_and,Q1,Q3,Q9,Z0,Q2,Q4,aload,acells,getArr,part,Z6,Z1,Z9,Z7,Q2,Q4,Q0,hct,c1,c2,e,cs,d1,d2,hk,resAll,resVals,resVal,Z3,Prod.mk.injEq,true_and,exists_eq']
 case true =>
 rw [q3] at d2
 simp only [treeOk,Bool.and_eq_true,decide_eq_true_eq] at q1
 have nb := q1.2
 have wt : ∀ x ∈ yieldT t, 0 ≤ x := fun x hx => by simpa using List.all_eq_true.1 q3 x hx
 have ist : isSym g s = true := by rw [hs]; exact node_sym hr.good nb
 have ist' := ist
 simp only [isSym,Bool.and_eq_true,decide_eq_true_eq] at ist'
 obtain ⟨le1, le2⟩ := least hr F0 t nb wt
 rw [← hs] at le1 le2
 have fm : most = 1000000 := rfl
 have hS : Sm g.nonterms.length y s := by
  by_cases p : 0 ≤ s
  ·exact .inl p
  ·rw [yk_neg (by omega)] at le1
   refine .inr ⟨by unfold nx; omega, le1, ?_⟩
   rcases hb with hb | hb | hb <;> omega
 have h4 : s < 0 → y.getD (nx s) (-1) < 65536 := fun p => by
  rcases hb with hb | hb | hb <;> omega
 obtain ⟨p1, p2⟩ := f_Short_ok hr h0 F hok hl ok mc hi ist hS h4 (g.nonterms.length + 1) (Nat.le_refl _)
 by_cases fit : sizeN (shT g.rules y h (g.nonterms.length + 1) s) ≤ 65536
 case neg =>
  have d4 := p2 fit
  simp only [Zaa,Zab,Zac,Zad,Zai,Zaj,Zak,Zam,Zar,Zas,Zay,Zaz,Zba,Zbc,Zbh,Zbi,Zbj,Zbk,Zbl,Zbm,Zbn,Zbo,Zbp,Zbq,Zbr,Zby,Zcf,Zcp,Zcq,Zcs,Zcu,Zcv,Zcw,Zcx,Zcy,Zcz,Zda,Q0,Z2,Q7,Q8,Z4,Z5,Zdk,Zdl,Zdr,Zdx,Zdz,Zea,Zeb,Zem,decide_true,decide_false,Z8,Q5,Q6,Q1,Q3,if_true,Nat.reduceAdd,Nat.reduceSub,Nat.reduceLeDiff,eq_self,and_self,true_and,Q1,Q3,Q9,Z0,Q2,Q4,aload,acells,getArr,part,astore,putCells,List.all_cons,List.all_nil,cellOk,Bool.and_self,Z6,List.drop_succ_cons,Z1,Z9,Z7,Q2,Q4,Q0,hct,c1,c2,e,cs,d1,d2,d4,hk,resAll,resVals,resVal,Z3,Prod.mk.injEq,true_and,exists_eq']
 case pos =>
 obtain ⟨c, hE, d4⟩ := p1 fit
 have rl := rkS_le hok s
 obtain ⟨un, uo⟩ := shT_node hr F (g.nonterms.length + 1) _ (Nat.le_refl _) s hS rl ist
 obtain ⟨uw, ul⟩ := shT_yield hr F (g.nonterms.length + 1) _ (Nat.le_refl _) s hS rl
 have us := shT_sym (rs := g.rules) (y := y) (h := h) (g.nonterms.length + 1) s
 obtain ⟨U, hU⟩ : ∃ U, U = shT g.rules y h (g.nonterms.length + 1) s := ⟨_, rfl⟩
 rw [← hU] at hE un uo uw ul us fit
 have d5 := r_tRightE g hg U uo fit hE
 have d6 := r_WholeE U uo (by omega) hE
 have d7 := f_YieldE U uo (by omega) hE
 have e5 : treeOk g U = true := by
  unfold treeOk
  rw [decide_eq_true h0, un]; rfl
 have e6 : wholeB U = true := List.all_eq_true.2 fun x hx => decide_eq_true (uw x hx)
 rw [e5] at d5
 rw [e6] at d6
 have dr := r_Right g hg
 rw [h0] at dr
 have w1 := fun h => len_encL h (yieldT t)
 have w2 := fun h => len_encL h (yieldT U)
 have w3 : ((yieldT U).length : Int) ≤ (yieldT t).length := by omega
 obtain ⟨kv, rfl, hkv⟩ := hE.kv3
 rw [us] at d4 d5 d6 d7
 rcases hkv with rfl | ⟨ee, rows, rfl⟩ <;> simp only [Zaa,Zab,Zac,Zad,Zai,Zaj,Zak,Zas,Zay,Zaz,Zba,Zbb,Zbc,Zbg,Zbh,Zbi,Zbj,Zbk,Zbl,Zbm,Zbn,Zbo,Zbp,Zbq,Zbr,Zby,Zcf,Zcg,Zcp,Zcq,Zcs,Zcu,Zcv,Zcw,Zcx,Zcy,Zcz,Zda,Q0,Z2,Q7,Q8,Z4,Z5,Zdi,Zdk,Zdl,Zdr,Zdx,Zdz,Zea,Zeb,Zem,decide_true,decide_false,Z8,Q5,Q6,Q1,Q3,if_true,Nat.reduceAdd,Nat.reduceSub,Nat.reduceLeDiff,Int.reduceEq,eq_self,and_self,true_and,Q1,Q3,Q9,Z0,Q2,Q4,aload,acells,getArr,part,astore,putCells,List.all_cons,List.all_nil,cellOk,Bool.and_self,Z6,List.drop_succ_cons,Z1,Z9,Z7,Q2,Q4,Q0,hct,c1,c2,e,cs,d1,d2,d3,d4,d5,d6,d7,dr,w1,w2,w3,hk,resAll,resVals,resVal,Z3,Prod.mk.injEq,true_and,exists_eq']
end Go.Proofs.Ytkimloceaihplaa.Ai
