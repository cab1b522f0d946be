/- The reference's last: the walk. -/
import Derived.Test.YtkimloceaihplaamTF
import Derived.Test.YtkimloceaihplaamGC
namespace Go.Proofs.Ytkimloceaihplaa.Ai
open Go Go.Proofs
set_option linter.unusedVariables false
set_option linter.unusedSimpArgs false
set_option maxRecDepth 10000
set_option maxHeartbeats 4000000
end Go.Proofs.Ytkimloceaihplaa.Ai
namespace Go.Proofs.Ytkimloceaihplaa.Ai
open Go Go.Proofs
open AV renaming junk → J
open List renaming set_cons_zero → Q0, length_cons → Q1, getElem?_cons_zero → Q2, length_nil → Q3, nil_append → Q4, drop_zero → Q5, cons_append → Q6, getD_cons_zero → Q7, getD_cons_succ → Q8, drop_succ_cons → Q9, take_succ_cons → Z0, set_cons_succ → Z1
open Option renaming bind_some → Z2
set_option linter.unusedVariables false
set_option linter.unusedSimpArgs false
set_option maxRecDepth 10000
set_option maxHeartbeats 4000000
theorem r_YieldE : ∀ t, sizeN t ≤ 1000000 → ∀ c, Enc t c → ∀ H, lim G0.cfg (.func 18) [.agg c] H = some (encL (yieldT t), H) := by
 intro t
 induction t using T.ind with
 | _ s r ks ih =>
 intro hN c hc H
 have hEc := hc
 obtain ⟨kv, rfl, ll, ix, _⟩ := hc.open
 have hsz : sizeN (.node s r ks) = 1 + sizeNs ks := by simp [sizeN]
 have hlen : (ks.length : Int) ≤ sizeNs ks := len_sizeNs ks
 have loop : ∀ (d i m : Nat) (ys : List Int) (v : AV) (h : AHeap), ks.length = i + d → d < m → ys.length + sizeNs (ks.drop i) ≤ 1000000 → Own ys v h → h[0]? = some (.arr 0 3 true [[.int .i64 s, .int .i64 r, kv]]) →
   ∃ v' h', loopN (evalCode (lim G0.cfg) (ks.length + 1) B_r20_Yield_0) m ⟨[J, .ptr 0 0 0 0, J, v, .int .i64 i, J,J,J,J,J,J,J,J,J,J,J,J,J,J,J,J,J,J,J,J,J,J,J,J], h⟩ = some (.exit 0, ⟨[J, .ptr 0 0 0 0, J, v', J,J,J,J,J,J,J,J,J,J,J,J,J,J,J,J,J,J,J,J,J,J,J,J,J], h'⟩) ∧ Own (ys ++ yieldTs (ks.drop i)) v' h' ∧
    h'[0]? = some (.arr 0 3 true [[.int .i64 s, .int .i64 r, kv]]) := by
  intro d
  induction d with
  | zero =>
   intro i m ys v h h1 h2 h4 ho hb
   obtain ⟨m, rfl⟩ : ∃ q, m = q + 1 := ⟨m - 1, by omega⟩
   have e1 : ks.drop i = [] := List.drop_eq_nil_iff.2 (by omega)
   have h3 : ¬ ((i : Int) < ks.length) := by omega
   rw [e1]
   exact ⟨v, h, by simp only [loop_e,EB_r20_Yield_0,Zab,Zac,Zad,Zag,Zah,Zaj,Zak,Zal,Zas,Zav,Zay,Zbi,Zbk,Zbo,Zbq,Zby,Zcg,Zcv,Zcx,Zdb,Zdc,Zdd,Q0,Z1,Q7,Q8,Z2,Zdh,Zdx,Zdz,decide_false,Q2,Q1,Q3,if_true,Nat.reduceAdd,Nat.reduceLeDiff,eq_self,aload,acells,getArr,part,Q5,Q9,Z0,List.take_nil,Q0,hb,ll,h3], by simpa [yieldTs] using ho, hb⟩
  | succ d ihd =>
   intro i m ys v h h1 h2 h4 ho hb
   obtain ⟨m, rfl⟩ : ∃ q, m = q + 1 := ⟨m - 1, by omega⟩
   have h3 : i < ks.length := by omega
   have h3' : (i : Int) < ks.length := by omega
   have e1 : ks.drop i = ks[i] :: ks.drop (i + 1) := List.drop_eq_getElem_cons h3
   have hw := w64s (n := i) (by omega)
   rw [e1] at h4 ⊢
   simp only [sizeNs,yieldTs] at h4 ⊢
   have hmem : ks[i] ∈ ks := List.getElem_mem h3
   obtain ⟨ci, ei, xi⟩ := ix i h3
   have hc := ih ks[i] hmem (by omega) ci ei
   obtain ⟨ki, rfl, hki⟩ := ei.kv3
   have hyl := yieldT_len ks[i]
   obtain ⟨v1, h1', a1, a2, a3⟩ := ho.append (x := encL (yieldT ks[i])) (elems_encL h _) (by omega)
   have hb' := a3 0 _ hb (fun _ _ e => by cases e)
   obtain ⟨v2, h2', b1, b2, b3⟩ := ihd (i + 1) m _ v1 h1' (by omega) (by omega) (by rw [List.length_append]; omega) a2 hb'
   refine ⟨v2, h2', ?_, by rw [← List.append_assoc]; exact b2, b3⟩
   rw [← b1]
   simp only [loop_e,EB_r20_Yield_0,Zaa,Zab,Zac,Zad,Zae,Zag,Zaj,Zak,Zan,Zar,Zau,Zay,Zaz,Zbi,Zbk,Zbo,Zbq,Zby,Zcb,Zcg,Zci,Zcp,Zcq,Zcv,Zcw,Zcx,Zcz,Zda,Zdb,Zdc,Zdd,Q0,Z1,Q7,Q8,Z2,Zde,Zdh,Zdx,Zdz,Zea,decide_true,Q2,Q1,Q3,if_true,Nat.reduceAdd,Nat.reduceLeDiff,eq_self,aload,acells,getArr,part,Q5,Q9,Z0,List.take_nil,Q6,Q4,Q0,hb,ll,h3',xi,hc,a1,hw]
 obtain ⟨v, h', e, ho, hb⟩ := loop ks.length 0 (ks.length + 1) [] .nilS [.arr 0 3 true [[.int .i64 s, .int .i64 r, kv]]] (by omega) (by omega) (by rw [Q5]; simp; omega) (Own.nil _) rfl
 rw [Q5, Q4] at ho
 rw [z0] at e
 have hlk := yieldTs_len ks
 by_cases q : r = -1
 case neg =>
  have hR : yieldT (.node s r ks) = yieldTs ks := by simp [yieldT, q]
  rw [hR]
  obtain ⟨c, hfz⟩ := ho.freeze
  refine lim_at rfl rfl P_r20_Yield (ks.length + 1) (fun h => fz_1 (fz_enc hEc h)) ?_ hfz H
  rw [R_r20_Yield]
  simp only [Zaa,Zab,Zac,Zad,Zae,Zaf,Zag,Zai,Zaj,Zak,Zap,Zas,Zat,Zay,Zaz,Zbi,Zbk,Zbn,Zbo,Zbq,Zby,Zcs,Zcu,Zcv,Zcw,Zcx,Zdb,Zdc,Zdd,Q0,Z1,Q7,Q8,Z2,Option.map_some,Zdl,Zdx,Zdz,Zeb,decide_false,Q2,Q1,Q3,if_true,Nat.reduceAdd,Nat.reduceSub,Nat.reduceLeDiff,Int.reduceNeg,eq_self,Q1,Q3,List.replicate_succ,List.replicate_zero,Q6,Q4,aload,acells,getArr,part,Q5,Q9,Z0,List.take_zero,Q6,Q4,Q0,e,hb,q,resAll,resVals,resVal]
 case pos =>
  have hR : yieldT (.node s r ks) = yieldTs ks ++ [s] := by simp [yieldT, q]
  rw [hR]
  obtain ⟨v', h2, a, b, c'⟩ := ho.append (zs := [s]) (elems_one h' true s) (by simp; omega)
  obtain ⟨c, hfz⟩ := b.freeze
  refine lim_at rfl rfl P_r20_Yield (ks.length + 1) (fun h => fz_1 (fz_enc hEc h)) ?_ hfz H
  rw [R_r20_Yield]
  subst q
  simp only [Zab,Zac,Zad,Zae,Zaf,Zag,Zai,Zaj,Zak,Zap,Zar,Zat,Zay,Zaz,Zbi,Zbk,Zbn,Zbo,Zbq,Zby,Zci,Zcn,Zcs,Zcu,Zcv,Zcw,Zcx,Zdb,Zdc,Zdd,Q0,Z1,Q7,Q8,Z2,Option.map_some,Zdl,Zdx,Zdz,Zeb,decide_true,Q2,Q1,Q3,if_true,Nat.reduceAdd,Nat.reduceSub,Nat.reduceLeDiff,Int.reduceNeg,eq_self,Q1,Q3,List.replicate_succ,List.replicate_zero,Q6,Q4,aload,acells,getArr,part,Q5,Q9,Z0,List.take_zero,Q6,Q4,Q0,e,hb,ev2,lit_one,a,resAll,resVals,resVal]
end Go.Proofs.Ytkimloceaihplaa.Ai
namespace Go.Proofs.Ytkimloceaihplaa.Ai
open Go Go.Proofs
set_option linter.unusedVariables false
set_option linter.unusedSimpArgs false
set_option maxRecDepth 10000
set_option maxHeartbeats 4000000
end Go.Proofs.Ytkimloceaihplaa.Ai
namespace Go.Proofs.Ytkimloceaihplaa.Ai
open Go Go.Proofs
set_option linter.unusedVariables false
set_option linter.unusedSimpArgs false
set_option maxRecDepth 10000
set_option maxHeartbeats 4000000
end Go.Proofs.Ytkimloceaihplaa.Ai
