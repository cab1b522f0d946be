/- tree.rule: the cost of a rule, walked. -/
import Derived.Test.YtkimloceaihplaamTH
namespace Go.Proofs.Ytkimloceaihplaa.Ai
open Go Go.Proofs
open AV renaming junk → J
open List renaming set_cons_zero → Q0, length_cons → Q1, cons_append → Q2, length_nil → Q3, nil_append → Q4, getElem?_cons_zero → Q5, getD_cons_zero → Q6, getD_cons_succ → Q7, set_cons_succ → Q8, drop_succ_cons → Q9, take_succ_cons → Z0, drop_zero → Z1, take_zero → Z4, all_cons → Z5, take_nil → Z7, all_nil → Z8
open Option renaming bind_some → Z2, map_some → Z3
open Bool renaming and_self → Z6
set_option linter.unusedVariables false
set_option linter.unusedSimpArgs false
set_option maxRecDepth 10000
set_option maxHeartbeats 4000000
abbrev eP (c : Int × Int) : List AV := [.int .i64 c.1, .int .i64 c.2]
def LiP (l : List (Int × Int)) (v : AV) : Prop := (l = [] ∧ v = .nilS) ∨ ∃ e, v = .vsl e (l.map eP)
theorem LiP.len {l : List (Int × Int)} {v : AV} (hl : LiP l v) (h : AHeap) : alen h .slice v = some (.int .i64 l.length) := by
 rcases hl with ⟨rfl, rfl⟩ | ⟨e, rfl⟩
 ·rfl
 ·simp [alen]
theorem LiP.ix {l : List (Int × Int)} {v : AV} (hl : LiP l v) (h : AHeap) (j : Nat) (hj : j < l.length) : aindexAddr h 2 v (.int .i64 j) = some (.vptr (eP l[j]) 0) := by
 rcases hl with ⟨rfl, rfl⟩ | ⟨e, rfl⟩
 ·simp at hj
 ·exact ix_map eP h 2 e l .i64 j hj rfl
theorem LiP.fz {l : List (Int × Int)} {v : AV} (hl : LiP l v) (h : AHeap) : freeze h 1000 v = some (v, true) := by
 rcases hl with ⟨rfl, rfl⟩ | ⟨e, rfl⟩ <;> rfl
structure CB (n : Nat) (l : List (Int × Int)) : Prop where
 len : l.length = n
 rng : ∀ c ∈ l, -1 ≤ c.1 ∧ c.1 ≤ far ∧ 0 ≤ c.2 ∧ c.2 ≤ 1000000000000000
theorem COk.cb {n : Nat} {l : List (Int × Int)} (h : COk n l) (hn : n ≤ 512) : CB n l := ⟨h.len, fun c hc => by
 have := h.rng c hc
 have f : far = 1099511627776 := rfl
 omega⟩
def rE : Option (Int × Int) → AV
 | some c => .tup [.agg (eP c), .bool true]
 | none => .tup [.agg [.int .i64 0, .int .i64 0], .bool false]
theorem run_rule {n : Nat} {l : List (Int × Int)} {w : AV} {r : RuleD} (hl : LiP l w) (hb : CB n l) (hn : n ≤ 1000) (hv : ∀ s ∈ r.right, -(n : Int) ≤ s) (hm : r.right.length ≤ 1000) : ∃ h', runFn (lim G0.cfg) 2000 A_tree_rule [w, .agg (eRule r)] [] = some (rE (ruleGo l r.right (0, 1)), h') := by
 have f : far = 1099511627776 := rfl
 have lq := (li_vsl false r.right).len
 have loop : ∀ (d i m : Nat) (a : Int × Int) (h : AHeap), r.right.length = i + d → d < m → 0 ≤ a.1 → a.1 ≤ far → 0 ≤ a.2 → a.2 ≤ 1000000000000001 → h[0]? = some (.arr 0 5 true [eRule r]) → h[1]? = some (.arr 0 2 true [[.int .i64 0, .int .i64 0]]) → h[2]? = some (.arr 0 2 true [[.int .i64 a.1, .int .i64 a.2]]) →
   (∀ c, ruleGo l (r.right.drop i) a = some c → ∃ h', loopN (evalCode (lim G0.cfg) 2000 B_tree_rule_0) m ⟨(w::J::J::J::.ptr 1 0 0 0::J::.ptr 2 0 0 0::J::J::J::J::J::.vsl false (eIs r.right) :: .int .i64 r.right.length :: .int .i64 i::J::J::J::J::J::J::J::J::J::J::J::J::J::J::J::J::J::J::J::J::J::J::J::J::J::J::J::J::J::J::[]), h⟩ = some (.exit 0, ⟨(J::J::J::J::.ptr 1 0 0 0::J::.ptr 2 0 0 0::J::J::J::J::J::J::J::J::J::J::J::J::J::J::J::J::J::J::J::J::J::J::J::J::J::J::J::J::J::J::J::J::J::J::J::J::J::J::[]), h'⟩) ∧ h'[1]? = some (.arr 0 2 true [[.int .i64 0, .int .i64 0]]) ∧ h'[2]? = some (.arr 0 2 true [[.int .i64 c.1, .int .i64 c.2]])) ∧
   (ruleGo l (r.right.drop i) a = none → ∃ h', loopN (evalCode (lim G0.cfg) 2000 B_tree_rule_0) m ⟨(w::J::J::J::.ptr 1 0 0 0::J::.ptr 2 0 0 0::J::J::J::J::J::.vsl false (eIs r.right) :: .int .i64 r.right.length :: .int .i64 i::J::J::J::J::J::J::J::J::J::J::J::J::J::J::J::J::J::J::J::J::J::J::J::J::J::J::J::J::J::J::[]), h⟩ = some (.ret, ⟨(J::J::J::J::.ptr 1 0 0 0 :: .bool false::J::J::J::J::J::J::J::J::J::J::J::J::J::J::J::J::J::J::J::J::J::J::J::J::J::J::J::J::J::J::J::J::J::J::J::J::J::J::J::[]), h'⟩) ∧ h'[1]? = some (.arr 0 2 true [[.int .i64 0, .int .i64 0]])) := by
  intro d
  induction d with
  | zero =>
   intro i m a h h1 h2 a1 a2 a3 a4 e0 e1 e2
   obtain ⟨m, rfl⟩ : ∃ q, m = q + 1 := ⟨m - 1, by omega⟩
   have cn : ¬ ((i : Int) < r.right.length) := by omega
   have q1 : r.right.drop i = [] := List.drop_eq_nil_iff.2 (by omega)
   rw [q1, ruleGo]
   refine ⟨fun c hc => ⟨h, ?_, e1, by cases hc; exact e2⟩, fun hc => by cases hc⟩
   simp only [loop_e,EB_tree_rule_0,Zab,Zac,Zad,Zag,Zah,Zaj,Zak,Zal,Zas,Zav,Zay,Zbi,Zbq,Zcv,Zcx,Zdb,Zdc,Zdd,Q0,Q8,Q6,Q7,Zdh,decide_false,Int.reduceNeg,eq_self,cn]
  | succ d ih =>
   intro i m a h h1 h2 a1 a2 a3 a4 e0 e1 e2
   obtain ⟨m, rfl⟩ : ∃ q, m = q + 1 := ⟨m - 1, by omega⟩
   have c0 : i < r.right.length := by omega
   have c : (i : Int) < r.right.length := by omega
   have q1 : r.right.drop i = r.right[i] :: r.right.drop (i + 1) := List.drop_eq_getElem_cons c0
   have xq := fun h => (li_vsl false r.right).ix h .i64 i c0
   have hs := hv _ (List.getElem_mem c0)
   have hw := w64s (n := i) (by omega)
   obtain ⟨s, hse⟩ : ∃ s, s = r.right[i] := ⟨_, rfl⟩
   rw [← hse] at xq hs q1
   rw [q1, ruleGo]
   have lt2 := get_len e2
   obtain ⟨a1', a2'⟩ := a
   simp only at a1 a2 a3 a4
   have key : ∀ (K : Int × Int) (h3 : AHeap), K = lc l s → -1 ≤ K.1 → K.1 ≤ far → 0 ≤ K.2 → K.2 ≤ 1000000000000000 → h3 = (h ++ [AObj.arr 0 2 true [[.int .i64 K.1, .int .i64 K.2]]]).set 2 (.arr 0 2 true [[.int .i64 (min (a1' + K.1) far), .int .i64 (max a2' (K.2 + 1))]]) → h3[1]? = some (.arr 0 2 true [[.int .i64 0, .int .i64 0]]) ∧ h3[2]? = some (.arr 0 2 true [[.int .i64 (min (a1' + K.1) far), .int .i64 (max a2' (K.2 + 1))]]) ∧ h3[0]? = some (.arr 0 5 true [eRule r]) := by
    intro K h3 _ _ _ _ _ e
    rw [e]
    exact ⟨get_set_ne (get_app e1 _) (by omega), get_set_eq (get_app e2 _), get_set_ne (get_app e0 _) (by omega)⟩
   obtain ⟨K, hK⟩ : ∃ K, K = lc l s := ⟨_, rfl⟩
   have kb : -1 ≤ K.1 ∧ K.1 ≤ far ∧ 0 ≤ K.2 ∧ K.2 ≤ 1000000000000000 := by
    rw [hK]
    by_cases p : s < 0
    ·have k1 : nx s < l.length := by rw [hb.len]; unfold nx; omega
     rw [lc_neg p, getD_get k1]
     exact hb.rng _ (List.getElem_mem k1)
    ·rw [lc_pos (by omega)]; exact ⟨by decide, by decide, by decide, by decide⟩
   rw [← hK]
   obtain ⟨K1, K2⟩ := K
   show (∀ c, (if K1 < 0 then none else ruleGo l (r.right.drop (i + 1)) (min (a1' + K1) far, max a2' (K2 + 1))) = some c → _) ∧ ((if K1 < 0 then none else ruleGo l (r.right.drop (i + 1)) (min (a1' + K1) far, max a2' (K2 + 1))) = none → _)
   simp only at kb
   have n1 := get_new h (.arr 0 2 true [[.int .i64 1, .int .i64 0]])
   have n2 : (h ++ [AObj.arr 0 2 true [[.int .i64 1, .int .i64 0]]]).set h.length (.arr 0 2 true [[.int .i64 K1, .int .i64 K2]]) = h ++ [AObj.arr 0 2 true [[.int .i64 K1, .int .i64 K2]]] := by rw [hap_set0]; rfl
   have n3 := get_new h (.arr 0 2 true [[.int .i64 K1, .int .i64 K2]])
   have g1 := get_app e1 [AObj.arr 0 2 true [[.int .i64 K1, .int .i64 K2]]]
   have g2 := get_app e2 [AObj.arr 0 2 true [[.int .i64 K1, .int .i64 K2]]]
   have ne1 : ¬ (1 = h.length) := by omega
   have ne2 : ¬ (2 = h.length) := by omega
   have w2 : IntKind.i64.wrap (a1' + K1) = a1' + K1 := w64 (by omega) (by omega)
   have w3 : IntKind.i64.wrap (K2 + 1) = K2 + 1 := w64 (by omega) (by omega)
   by_cases z : K1 < 0
   ·rw [if_pos z]
    refine ⟨fun c hc => (by cases hc), fun _ => ?_⟩
    have g3 := get_set_eq (y := AObj.arr 0 2 true [[.int .i64 0, .int .i64 0]]) g1
    refine ⟨(h ++ [AObj.arr 0 2 true [[.int .i64 K1, .int .i64 K2]]]).set 1 (.arr 0 2 true [[.int .i64 0, .int .i64 0]]), ?_, g3⟩
    by_cases p : s < 0
    ·have k1 : nx s < l.length := by rw [hb.len]; unfold nx; omega
     have xy := fun h => hl.ix h (nx s) k1
     have eN : ((nx s : Nat) : Int) = -1 - s := by unfold nx; omega
     rw [eN, ← getD_get k1 (-1, 0), ← lc_neg p, ← hK] at xy
     have w1 : IntKind.i64.wrap (-1 - s) = -1 - s := w64 (by omega) (by omega)
     simp only [loop_e,EB_tree_rule_0,Zaa,Zab,Zac,Zad,Zae,Zag,Zai,Zaj,Zak,Zam,Zao,Zar,Zaw,Zay,Zba,Zbi,Zbk,Zbm,Zbo,Zbp,Zbq,Zby,Zcb,Zcm,Zcv,Zcw,Zcx,Zcy,Zdb,Zdc,Zdd,Q0,Q8,Q6,Q7,Z2,Z3,Zdf,Zdh,Zdx,Zdz,Zea,Zeb,Zec,decide_true,Q5,Q1,Q3,if_true,Nat.reduceAdd,Nat.reduceLeDiff,Int.reduceNeg,eq_self,and_self,Q1,Q3,Q2,Q4,aload,acells,getArr,part,eI,astore,putCells,get_new,set_new,Z5,Z8,cellOk,Z6,Z1,Q9,Z0,Z4,Z7,Q2,Q4,Q0,c,xq,p,w1,xy,n1,n2,n3,g1,z,afill,evp,fillCells,Nat.reduceLT]
    ·rw [lc_pos (by omega)] at hK
     cases hK
     exact absurd z (by decide)
   ·rw [if_neg z]
    obtain ⟨k1, k2, k3⟩ := key (K1, K2) _ hK kb.1 kb.2.1 kb.2.2.1 kb.2.2.2 rfl
    obtain ⟨i1, i2⟩ := ih (i + 1) m (min (a1' + K1) far, max a2' (K2 + 1)) _ (by omega) (by omega) (by simp only; omega) (by simp only; omega) (by simp only; omega) (by simp only; omega) k3 k1 k2
    have step : loopN (evalCode (lim G0.cfg) 2000 B_tree_rule_0) (m + 1) ⟨(w::J::J::J::.ptr 1 0 0 0::J::.ptr 2 0 0 0::J::J::J::J::J::.vsl false (eIs r.right) :: .int .i64 r.right.length :: .int .i64 i::J::J::J::J::J::J::J::J::J::J::J::J::J::J::J::J::J::J::J::J::J::J::J::J::J::J::J::J::J::J::[]), h⟩ = loopN (evalCode (lim G0.cfg) 2000 B_tree_rule_0) m ⟨(w::J::J::J::.ptr 1 0 0 0::J::.ptr 2 0 0 0::J::J::J::J::J::.vsl false (eIs r.right) :: .int .i64 r.right.length :: .int .i64 ((i + 1 : Nat) : Int)::J::J::J::J::J::J::J::J::J::J::J::J::J::J::J::J::J::J::J::J::J::J::J::J::J::J::J::J::J::J::[]), (h ++ [AObj.arr 0 2 true [[.int .i64 K1, .int .i64 K2]]]).set 2 (.arr 0 2 true [[.int .i64 (min (a1' + K1) far), .int .i64 (max a2' (K2 + 1))]])⟩ := by
     rw [f]
     by_cases p : s < 0
     ·have k1 : nx s < l.length := by rw [hb.len]; unfold nx; omega
      have xy := fun h => hl.ix h (nx s) k1
      have eN : ((nx s : Nat) : Int) = -1 - s := by unfold nx; omega
      rw [eN, ← getD_get k1 (-1, 0), ← lc_neg p, ← hK] at xy
      have w1 : IntKind.i64.wrap (-1 - s) = -1 - s := w64 (by omega) (by omega)
      simp only [loop_e,EB_tree_rule_0,Zaa,Zab,Zac,Zad,Zae,Zag,Zaj,Zak,Zan,Zar,Zas,Zau,Zay,Zba,Zbi,Zbk,Zbm,Zbo,Zbp,Zbq,Zby,Zcb,Zcl,Zcm,Zcv,Zcw,Zcx,Zcy,Zcz,Zda,Zdb,Zdc,Zdd,Q0,Q8,Q6,Q7,Z2,Z3,Zde,Zdf,Zdh,Zdx,Zdz,Zea,Zeb,Zec,decide_true,decide_false,Q5,Q1,Q3,if_true,Nat.reduceAdd,Nat.reduceLeDiff,Int.reduceNeg,eq_self,and_self,Q1,Q3,Q2,Q4,aload,acells,getArr,part,eI,astore,putCells,get_new,set_new,Z5,Z8,cellOk,Z6,Z1,Q9,Z0,Z4,Z7,Q2,Q4,Q0,c,xq,p,w1,xy,n1,n2,n3,g2,z,w2,w3,am_min,am_max,afill,evp,fillCells,Nat.reduceLT,hw]
     ·rw [lc_pos (by omega)] at hK
      cases hK
      simp only [loop_e,EB_tree_rule_0,Zaa,Zab,Zac,Zad,Zae,Zag,Zaj,Zak,Zan,Zar,Zas,Zau,Zay,Zba,Zbi,Zbk,Zbm,Zbo,Zbp,Zbq,Zby,Zcb,Zcl,Zcm,Zcv,Zcw,Zcx,Zcy,Zcz,Zda,Zdb,Zdc,Zdd,Q0,Q8,Q6,Q7,Z2,Z3,Zde,Zdh,Zdx,Zdz,Zeb,Zec,decide_true,decide_false,Q5,Q1,Q3,if_true,Nat.reduceAdd,Nat.reduceLeDiff,Int.reduceNeg,eq_self,and_self,Q1,Q3,Q2,Q4,aload,acells,getArr,part,eI,astore,putCells,get_new,set_new,Z5,Z8,cellOk,Z6,Z1,Q9,Z0,Z4,Z7,Q2,Q4,Q0,c,xq,p,n1,g2,z,w2,w3,am_min,am_max,afill,evp,fillCells,Nat.reduceLT,hw]
    rw [step]
    exact ⟨i1, i2⟩
 have e := loop r.right.length 0 2000 (0, 1) [.arr 0 5 true [eRule r], .arr 0 2 true [[.int .i64 0, .int .i64 0]], .arr 0 2 true [[.int .i64 0, .int .i64 1]]] (by omega) (by omega) (by decide) (by decide) (by decide) (by decide) rfl rfl rfl
 rw [Z1, z0] at e
 rw [R_tree_rule]
 have bx : Zcs [] 5 (.agg (eRule r)) = some (.ptr 0 0 0 0, [.arr 0 5 true [eRule r]]) := rfl
 cases hc : ruleGo l r.right (0, 1) with
 | none =>
  obtain ⟨h', k1, k2⟩ := e.2 hc
  exact ⟨h', by simp only [Zab,Zac,Zae,Zaf,Zag,Zaj,Zak,Zam,Zao,Zat,Zay,Zaz,Zba,Zbi,Zbk,Zbm,Zbn,Zbo,Zbp,Zby,Zcg,Zcm,Zcs,Zcu,Zcv,Zcw,Zcx,Zcy,Zdb,Zdc,Zdd,Q0,Q8,Q6,Q7,Z2,Z3,Zdx,Zdz,Zea,Zeb,Zec,Q5,List.getElem?_cons_succ,Q1,Q3,if_true,Nat.reduceAdd,Nat.reduceSub,Nat.reduceLeDiff,eq_self,and_self,Q1,Q3,List.replicate_succ,List.replicate_zero,Q2,Q4,aload,acells,getArr,part,astore,putCells,Z5,Z8,cellOk,Z6,Z1,Q9,Z0,Z4,Z7,Q2,Q4,Q0,lq,k1,k2,afill,evp,fillCells,Nat.reduceLT,resAll,resVals,resVal,rE]⟩
 | some c =>
  obtain ⟨h', k1, k2, k3⟩ := e.1 c hc
  have k4 := get_set_eq (y := AObj.arr 0 2 true [[.int .i64 c.1, .int .i64 c.2]]) k2
  exact ⟨h'.set 1 (.arr 0 2 true [[.int .i64 c.1, .int .i64 c.2]]), by simp only [Zab,Zac,Zae,Zaf,Zag,Zai,Zaj,Zak,Zap,Zat,Zay,Zaz,Zba,Zbi,Zbk,Zbm,Zbn,Zbo,Zbp,Zby,Zcg,Zcm,Zcs,Zcu,Zcv,Zcw,Zcx,Zcy,Zdb,Zdc,Zdd,Q0,Q8,Q6,Q7,Z2,Z3,Zdx,Zdz,Zea,Zeb,Zec,Q5,List.getElem?_cons_succ,Q1,Q3,if_true,Nat.reduceAdd,Nat.reduceSub,Nat.reduceLeDiff,eq_self,and_self,Q1,Q3,List.replicate_succ,List.replicate_zero,Q2,Q4,aload,acells,getArr,part,astore,putCells,Z5,Z8,cellOk,Z6,Z1,Q9,Z0,Z4,Z7,Q2,Q4,Q0,lq,k1,k2,k3,k4,afill,evp,fillCells,Nat.reduceLT,resAll,resVals,resVal,rE]⟩
end Go.Proofs.Ytkimloceaihplaa.Ai
namespace Go.Proofs.Ytkimloceaihplaa.Ai
open Go Go.Proofs
open AV renaming junk → J
open List renaming set_cons_zero → Q0, length_cons → Q1, length_nil → Q2, cons_append → Q3, getD_cons_zero → Q4, getD_cons_succ → Q5, nil_append → Q6, set_cons_succ → Q7, replicate → Q8, getElem?_cons_zero → Q9, getElem?_cons_succ → Z0, drop_succ_cons → Z1, drop_zero → Z2, append_assoc → Z3, take_succ_cons → Z4, length_append → Z5, take_zero → Z6, all_cons → Z8, all_nil → Y0, take_nil → Y1
open Option renaming bind_some → Z7
open Bool renaming and_self → Z9
set_option linter.unusedVariables false
set_option linter.unusedSimpArgs false
set_option maxRecDepth 10000
set_option maxHeartbeats 4000000
theorem fz_pairs {h : AHeap} {d : Nat} : ∀ l : List (Int × Int), ∃ q, mapO (mapO (freeze h (d + 1))) (l.map eP) = some q ∧ q.map (·.map (·.1)) = l.map eP := by
 intro l
 induction l with
 | nil => exact ⟨[], rfl, rfl⟩
 | cons c l ih =>
  obtain ⟨q, e1, e2⟩ := ih
  have i1 : ∀ n : Int, freeze h (d + 1) (.int .i64 n) = some (.int .i64 n, true) := fun _ => rfl
  have e : mapO (freeze h (d + 1)) [.int .i64 c.1, .int .i64 c.2] = some [(.int .i64 c.1, true), (.int .i64 c.2, true)] := mapO_2 (i1 _) (i1 _)
  have e3 : (c :: l).map eP = [.int .i64 c.1, .int .i64 c.2] :: l.map eP := rfl
  refine ⟨[(.int .i64 c.1, true), (.int .i64 c.2, true)] :: q, ?_, ?_⟩
  ·rw [e3]
   simp only [mapO] at e e1 ⊢
   simp only [e,e1]
  ·rw [e3]; simp [e2]
theorem fzP {l : List (Int × Int)} {i : Nat} {h : AHeap} {x : Bool} (hi : h[i]? = some (.arr 0 2 x (l.map eP))) (d : Nat) : ∃ x c, freeze h (d + 2) (.hsl i 0 0 l.length none) = some (x, c) ∧ LiP l x := by
 obtain ⟨q, e1, e2⟩ := fz_pairs (h := h) (d := d) l
 have := freeze_hslG (d := d + 1) (n := l.length) (cc := none) (q := q) hi (by simp) (by rw [List.take_of_length_le (by simp)]; exact e1)
 exact ⟨_, false, this, .inr ⟨false, by rw [e2]⟩⟩
theorem fz_ruleC (r : RuleD) (h : AHeap) : freeze h 1000 (.agg (eRule r)) = some (.agg (eRule r), true) := rfl
theorem f_ruleC {n : Nat} {l : List (Int × Int)} {w : AV} {r : RuleD} (hl : LiP l w) (hb : CB n l) (hn : n ≤ 1000) (hv : ∀ s ∈ r.right, -(n : Int) ≤ s) (hm : r.right.length ≤ 1000) (H : AHeap) : lim G0.cfg (.func 56) [w, .agg (eRule r)] H = some (rE (ruleGo l r.right (0, 1)), H) := by
 obtain ⟨h', e⟩ := run_rule hl hb hn hv hm
 refine lim_flat rfl rfl P_tree_rule 2000 (fun h => fz_2 (hl.fz h) (fz_ruleC r h)) ⟨h', e⟩ ?_ H
 intro h
 cases ruleGo l r.right (0, 1) <;> rfl
theorem f_rule_raw {n i : Nat} {l : List (Int × Int)} {r : RuleD} {x : Bool} {H : AHeap} (hi : H[i]? = some (.arr 0 2 x (l.map eP))) (hb : CB n l) (hn : n ≤ 1000) (hv : ∀ s ∈ r.right, -(n : Int) ≤ s) (hm : r.right.length ≤ 1000) : lim G0.cfg (.func 56) [.hsl i 0 0 n none, .agg (eRule r)] H = some (rE (ruleGo l r.right (0, 1)), H) := by
 obtain ⟨w, c, e1, e2⟩ := fzP hi 998
 rw [hb.len] at e1
 have e := f_ruleC e2 hb hn hv hm []
 refine lim_raw rfl e (fz_2 (e2.fz _) (fz_ruleC r _)) (l := [(w, c), (.agg (eRule r), true)]) ?_ rfl ?_
 ·simp only [mapO,e1,fz_ruleC]
 ·cases ruleGo l r.right (0, 1) <;> rfl
theorem pr_get {l : List (Int × Int)} {j : Nat} (hj : j < l.length) : (l.map eP)[j]? = some [.int .i64 (l.getD j (-1, 0)).1, .int .i64 (l.getD j (-1, 0)).2] := by simp [eP, hj]
theorem pr_set {l : List (Int × Int)} {j : Nat} (a b : Int) : (l.map eP).set j [.int .i64 a, .int .i64 b] = (l.set j (a, b)).map eP := by rw [List.map_set]
section
variable {g : GramD}
theorem costs_0 (hg : GramR g) (N : Nat) : ∀ (d i m : Nat) (h : AHeap), g.nonterms.length = i + d → d < m → h[0]? = some (.arr 0 5 true [eGram g]) → h[1]? = some (.arr 0 2 true ((Q8 i ((-1 : Int), (0 : Int)) ++ Q8 d (0, 0)).map eP)) →
  ∃ h', loopN (evalCode (lim G0.cfg) N B_tree_costs_0) m ⟨(J::.ptr 0 0 0 0::J::.hsl 1 0 0 g.nonterms.length none::J::J::J::J::J::J::J::J::J::J::J::J::.int .i64 g.nonterms.length :: .int .i64 i::J::J::J::J::J::J::J::J::J::J::J::J::J::J::J::J::J::J::J::J::J::J::J::J::J::J::J::J::J::J::J::J::J::J::J::J::J::J::J::J::J::J::J::J::J::J::J::J::J::J::J::J::J::J::J::J::J::J::J::J::[]), h⟩ = some (.exit 0, ⟨(J::.ptr 0 0 0 0::J::.hsl 1 0 0 g.nonterms.length none::J::J::J::J::J::J::J::J::J::J::J::J::J::J::J::J::J::J::J::J::J::J::J::J::J::J::J::J::J::J::J::J::J::J::J::J::J::J::J::J::J::J::J::J::J::J::J::J::J::J::J::J::J::J::J::J::J::J::J::J::J::J::J::J::J::J::J::J::J::J::J::J::J::J::[]), h'⟩) ∧ h'[0]? = some (.arr 0 5 true [eGram g]) ∧ h'[1]? = some (.arr 0 2 true ((Q8 g.nonterms.length ((-1 : Int), (0 : Int))).map eP)) := by
 have nt := hg.good.nt
 intro d
 induction d with
 | zero =>
  intro i m h h1 h2 e0 e1
  obtain ⟨m, rfl⟩ : ∃ q, m = q + 1 := ⟨m - 1, by omega⟩
  have c : ¬ ((i : Int) < g.nonterms.length) := by omega
  refine ⟨h, ?_, e0, ?_⟩
  ·simp only [loop_e,EB_tree_costs_0,Zab,Zac,Zad,Zag,Zah,Zaj,Zak,Zal,Zas,Zav,Zay,Zbi,Zbq,Zcv,Zcx,Zdb,Zdc,Zdd,Q0,Q7,Q4,Q5,Zdh,decide_false,Int.reduceNeg,eq_self,c]
  ·rw [e1, h1]; simp
 | succ d ih =>
  intro i m h h1 h2 e0 e1
  obtain ⟨m, rfl⟩ : ∃ q, m = q + 1 := ⟨m - 1, by omega⟩
  have c : (i : Int) < g.nonterms.length := by omega
  have hw := w64s (n := i) (by omega)
  have p1 : aindexAddr h 2 (.hsl 1 0 0 g.nonterms.length none) (.int .i64 i) = some (.ptr 1 0 i 0) := ix_hsl e1 (by omega)
  obtain ⟨l0, hl0⟩ : ∃ l, l = Q8 i ((-1 : Int), (0 : Int)) ++ Q8 (d + 1) (0, 0) := ⟨_, rfl⟩
  obtain ⟨l1, hl1⟩ : ∃ l, l = Q8 (i + 1) ((-1 : Int), (0 : Int)) ++ Q8 d (0, 0) := ⟨_, rfl⟩
  rw [← hl0] at e1
  have g1 : (l0.map eP)[i]? = some [.int .i64 0, .int .i64 0] := by
   rw [hl0, List.map_append, List.getElem?_append_right (by simp)]; simp
  have g2 : (l0.map eP).set i [.int .i64 (-1), .int .i64 0] = l1.map eP := by
   rw [pr_set]
   congr 1
   rw [hl0, hl1, List.set_append_right _ _ (by simp), List.length_replicate, Nat.sub_self, List.replicate_succ, Q0, List.replicate_succ', Z3]
   rfl
  obtain ⟨h', k1, k2, k3⟩ := ih (i + 1) m (h.set 1 (.arr 0 2 true (l1.map eP))) (by omega) (by omega) (get_set_ne e0 (by omega)) (by rw [hl1]; exact get_set_eq e1)
  refine ⟨h', ?_, k2, k3⟩
  rw [← k1]
  simp only [loop_e,EB_tree_costs_0,Zaa,Zab,Zac,Zad,Zae,Zag,Zaj,Zak,Zan,Zar,Zau,Zay,Zba,Zbi,Zbk,Zbp,Zbq,Zby,Zcb,Zcv,Zcw,Zcx,Zcy,Zdb,Zdc,Zdd,Q0,Q7,Q4,Q5,Zde,Zdh,Zdx,Zec,decide_true,Q1,Q2,if_true,Nat.reduceAdd,Nat.reduceLeDiff,Int.reduceNeg,eq_self,and_self,Q1,Q2,Q3,Q6,getArr,astore,putCells,Z8,Y0,cellOk,Z9,Z2,Z1,Z6,Q3,Q6,Q0,c,p1,e1,g1,g2,hw]
theorem costs_2 (hg : GramR g) (N : Nat) : ∀ (d i m : Nat) (l : List (Int × Int)) (more : Bool) (h : AHeap), g.rules.length = i + d → d < m → h[0]? = some (.arr 0 5 true [eGram g]) → h[1]? = some (.arr 0 2 true (l.map eP)) → COk g.nonterms.length l →
  ∃ h', loopN (evalCode (lim G0.cfg) N B_tree_costs_2) m ⟨(J::.ptr 0 0 0 0::J::.hsl 1 0 0 g.nonterms.length none::J::.bool more::J::J::J::J::J::J::J::J::J::J::J::J::J::J::J::J::J::J::J::J::J::.vsl false (g.rules.map eRule) :: .int .i64 g.rules.length :: .int .i64 i::J::J::J::J::J::J::J::J::J::J::J::J::J::J::J::J::J::J::J::J::J::J::J::J::J::J::J::J::J::J::J::J::J::J::J::J::J::J::J::J::J::J::J::J::J::J::J::J::[]), h⟩ = some (.exit 4, ⟨(J::.ptr 0 0 0 0::J::.hsl 1 0 0 g.nonterms.length none::J::.bool (roundU cUpd (g.rules.drop i) (l, more)).2::J::J::J::J::J::J::J::J::J::J::J::J::J::J::J::J::J::J::J::J::J::J::J::J::J::J::J::J::J::J::J::J::J::J::J::J::J::J::J::J::J::J::J::J::J::J::J::J::J::J::J::J::J::J::J::J::J::J::J::J::J::J::J::J::J::J::J::J::J::J::J::J::[]), h'⟩) ∧ h'[0]? = some (.arr 0 5 true [eGram g]) ∧ h'[1]? = some (.arr 0 2 true ((roundU cUpd (g.rules.drop i) (l, more)).1.map eP)) ∧ COk g.nonterms.length (roundU cUpd (g.rules.drop i) (l, more)).1 := by
 have hgl := hg.ok.rules
 rw [maxLen_eq] at hgl
 have nt := hg.good.nt
 intro d
 induction d with
 | zero =>
  intro i m l more h h1 h2 e0 e1 ok
  obtain ⟨m, rfl⟩ : ∃ q, m = q + 1 := ⟨m - 1, by omega⟩
  have c : ¬ ((i : Int) < g.rules.length) := by omega
  have q1 : g.rules.drop i = [] := List.drop_eq_nil_iff.2 (by omega)
  rw [q1]
  refine ⟨h, ?_, e0, e1, ok⟩
  simp only [loop_e,EB_tree_costs_2,Zab,Zac,Zad,Zag,Zah,Zaj,Zak,Zal,Zas,Zav,Zay,Zbi,Zbq,Zcv,Zcx,Zdb,Zdc,Zdd,Q0,Q7,Q4,Q5,Zdh,decide_false,eq_self,c,roundU,List.foldl_nil]
 | succ d ih =>
  intro i m l more h h1 h2 e0 e1 ok
  obtain ⟨m, rfl⟩ : ∃ q, m = q + 1 := ⟨m - 1, by omega⟩
  have c0 : i < g.rules.length := by omega
  have c : (i : Int) < g.rules.length := by omega
  have q1 : g.rules.drop i = g.rules[i] :: g.rules.drop (i + 1) := List.drop_eq_getElem_cons c0
  have hw := w64s (n := i) (by omega)
  have ir := fun h => ix_map eRule h 5 false g.rules .i64 i c0 rfl
  have mem := List.getElem_mem c0
  obtain ⟨r, hr⟩ : ∃ r, r = g.rules[i] := ⟨_, rfl⟩
  rw [← hr] at ir mem q1
  have rf := rule_f r
  obtain ⟨v1, v2, v3⟩ := hg.vr r mem
  have v4 := (hg.sym mem).1
  have li : r.left.toNat < l.length := by rw [ok.len]; omega
  have el : ((r.left.toNat : Nat) : Int) = r.left := by omega
  have cb := ok.cb (by omega)
  have call := fun (q : AHeap) => f_rule_raw (r := r) (get_app e1 q) cb (by omega) v3 (by omega)
  have p1 := fun (q : AHeap) => ix_hsl (n := g.nonterms.length) (c := none) (get_app e1 q) (k := .i64) (j := r.left.toNat) (by omega)
  rw [el] at p1
  have ge := fun (q : AHeap) => get_app e1 q
  have lt1 := get_len e1
  have pg := pr_get li
  obtain ⟨old, hold⟩ : ∃ o, o = l.getD r.left.toNat (-1, 0) := ⟨_, rfl⟩
  rw [← hold] at pg
  obtain ⟨o1, o2⟩ := old
  simp only at pg
  rw [q1, roundU_cons]
  cases hc : ruleGo l r.right (0, 1) with
  | none =>
   have eu : cUpd l r = none := by unfold cUpd; rw [hc]
   rw [hc] at call
   simp only [rE] at call
   obtain ⟨h', k1, k2, k3, k4⟩ := ih (i + 1) m l more (h ++ [.arr 0 5 true [eRule r], .arr 0 2 true [[.int .i64 0, .int .i64 0]], .arr 0 2 true [[.int .i64 o1, .int .i64 o2]]]) (by omega) (by omega) (get_app e0 _) (get_app e1 _) ok
   simp only [eu]
   refine ⟨h', ?_, k2, k3, k4⟩
   rw [← k1]
   simp only [loop_e,EB_tree_costs_2,Zaa,Zab,Zac,Zad,Zae,Zag,Zaj,Zak,Zan,Zar,Zas,Zau,Zay,Zaz,Zba,Zbe,Zbf,Zbh,Zbi,Zbj,Zbk,Zbl,Zbm,Zbo,Zbp,Zbq,Zby,Zcb,Zcf,Zcp,Zcq,Zcv,Zcw,Zcx,Zcy,Zcz,Zda,Zdb,Zdc,Zdd,Q0,Q7,Q4,Q5,Z7,Zde,Zdh,Zdx,Zdz,Zea,Zeb,Zem,decide_true,Q9,Z0,Q1,Q2,if_true,Nat.reduceAdd,Nat.reduceLeDiff,eq_self,and_self,Q1,Q2,Q3,Q6,aload,acells,getArr,part,astore,putCells,Z8,Y0,cellOk,Z9,Z2,Z1,Z4,Z6,Y1,Q3,Q6,Q0,c,ir,call,hap_get0,hap_get,hap_set0,hap_set,Z3,Z5,p1,ge,pg,hw]
  | some cc =>
   obtain ⟨c1, c2⟩ := cc
   rw [hc] at call
   simp only [rE] at call
   have eu : cUpd l r = if better (c1, c2) (o1, o2) = true then some (l.set r.left.toNat (c1, c2)) else none := by unfold cUpd; rw [hc, ← hold]
   by_cases up : better (c1, c2) (o1, o2) = true
   ·rw [if_pos up] at eu
    obtain ⟨ok', _⟩ := cUpd_ok hg.vr mem ok eu
    have sb : ∀ (q : AHeap) (o : AObj), (h ++ q).set 1 o = h.set 1 o ++ q := fun q o => by rw [List.set_append_left _ _ lt1]
    have ps := pr_set (l := l) (j := r.left.toNat) c1 c2
    obtain ⟨h', k1, k2, k3, k4⟩ := ih (i + 1) m (l.set r.left.toNat (c1, c2)) true (h.set 1 (.arr 0 2 true ((l.set r.left.toNat (c1, c2)).map eP)) ++ [.arr 0 5 true [eRule r], .arr 0 2 true [[.int .i64 c1, .int .i64 c2]], .arr 0 2 true [[.int .i64 o1, .int .i64 o2]]]) (by omega) (by omega) (get_app (get_set_ne e0 (by omega)) _) (get_app (get_set_eq e1) _) ok'
    simp only [eu]
    refine ⟨h', ?_, k2, k3, k4⟩
    rw [← k1]
    simp only [better,Bool.or_eq_true,Bool.and_eq_true,decide_eq_true_eq] at up
    by_cases a1 : o1 < 0
    ·simp only [loop_e,EB_tree_costs_2,Zaa,Zab,Zac,Zad,Zae,Zag,Zaj,Zak,Zan,Zar,Zau,Zay,Zaz,Zba,Zbb,Zbd,Zbf,Zbg,Zbi,Zbj,Zbk,Zbl,Zbm,Zbo,Zbp,Zbq,Zby,Zcb,Zcf,Zcp,Zcq,Zcv,Zcw,Zcx,Zcy,Zcz,Zda,Zdb,Zdc,Zdd,Q0,Q7,Q4,Q5,Z7,Zde,Zdh,Zdx,Zdz,Zea,Zeb,Zem,decide_true,Q9,Z0,Q1,Q2,if_true,Nat.reduceAdd,Nat.reduceLeDiff,eq_self,and_self,Q1,Q2,Q3,Q6,aload,acells,getArr,part,astore,putCells,Z8,Y0,cellOk,Z9,Z2,Z1,Z4,Z6,Y1,Q3,Q6,Q0,c,ir,call,hap_get0,hap_get,hap_set0,hap_set,Z3,Z5,p1,ge,pg,a1,sb,ps,hw]
    ·by_cases a2 : c1 < o1
     ·simp only [loop_e,EB_tree_costs_2,Zaa,Zab,Zac,Zad,Zae,Zag,Zaj,Zak,Zan,Zar,Zau,Zay,Zaz,Zba,Zbb,Zbc,Zbd,Zbf,Zbg,Zbh,Zbi,Zbj,Zbk,Zbl,Zbm,Zbo,Zbp,Zbq,Zby,Zcb,Zcf,Zcp,Zcq,Zcv,Zcw,Zcx,Zcy,Zcz,Zda,Zdb,Zdc,Zdd,Q0,Q7,Q4,Q5,Z7,Zde,Zdh,Zdx,Zdz,Zea,Zeb,Zem,decide_true,decide_false,Q9,Z0,Q1,Q2,if_true,Nat.reduceAdd,Nat.reduceLeDiff,eq_self,and_self,Q1,Q2,Q3,Q6,aload,acells,getArr,part,astore,putCells,Z8,Y0,cellOk,Z9,Z2,Z1,Z4,Z6,Y1,Q3,Q6,Q0,c,ir,call,hap_get0,hap_get,hap_set0,hap_set,Z3,Z5,p1,ge,pg,a1,a2,sb,ps,hw]
     ·have a3 : decide (c1 = o1) = true := decide_eq_true (by omega)
      have a4 : c2 < o2 := by omega
      simp only [loop_e,EB_tree_costs_2,Zaa,Zab,Zac,Zad,Zae,Zag,Zaj,Zak,Zan,Zar,Zau,Zay,Zaz,Zba,Zbb,Zbc,Zbg,Zbh,Zbi,Zbj,Zbk,Zbl,Zbm,Zbo,Zbp,Zbq,Zby,Zcb,Zcf,Zcp,Zcq,Zcv,Zcw,Zcx,Zcy,Zcz,Zda,Zdb,Zdc,Zdd,Q0,Q7,Q4,Q5,Z7,Zde,Zdh,Zdl,Zdx,Zdz,Zea,Zeb,Zem,decide_true,decide_false,Q9,Z0,Q1,Q2,if_true,Nat.reduceAdd,Nat.reduceLeDiff,eq_self,and_self,Q1,Q2,Q3,Q6,aload,acells,getArr,part,astore,putCells,Z8,Y0,cellOk,Z9,Z2,Z1,Z4,Z6,Y1,Q3,Q6,Q0,c,ir,call,hap_get0,hap_get,hap_set0,hap_set,Z3,Z5,p1,ge,pg,a1,a2,a3,a4,sb,ps,hw]
   ·rw [if_neg up] at eu
    obtain ⟨h', k1, k2, k3, k4⟩ := ih (i + 1) m l more (h ++ [.arr 0 5 true [eRule r], .arr 0 2 true [[.int .i64 c1, .int .i64 c2]], .arr 0 2 true [[.int .i64 o1, .int .i64 o2]]]) (by omega) (by omega) (get_app e0 _) (get_app e1 _) ok
    simp only [eu]
    refine ⟨h', ?_, k2, k3, k4⟩
    rw [← k1]
    simp only [better,Bool.or_eq_true,Bool.and_eq_true,decide_eq_true_eq] at up
    have a1 : ¬ o1 < 0 := fun e => up (.inl e)
    have a2 : ¬ c1 < o1 := fun e => up (.inr (.inl e))
    by_cases a3 : c1 = o1
    ·have a3' : decide (c1 = o1) = true := decide_eq_true a3
     have a4 : ¬ c2 < o2 := fun e => up (.inr (.inr ⟨a3, e⟩))
     simp only [loop_e,EB_tree_costs_2,Zaa,Zab,Zac,Zad,Zae,Zag,Zaj,Zak,Zan,Zar,Zas,Zau,Zay,Zaz,Zba,Zbb,Zbc,Zbg,Zbh,Zbi,Zbj,Zbk,Zbl,Zbm,Zbo,Zbp,Zbq,Zby,Zcb,Zcf,Zcp,Zcq,Zcv,Zcw,Zcx,Zcy,Zcz,Zda,Zdb,Zdc,Zdd,Q0,Q7,Q4,Q5,Z7,Zde,Zdh,Zdl,Zdx,Zdz,Zea,Zeb,Zem,decide_true,decide_false,Q9,Z0,Q1,Q2,if_true,Nat.reduceAdd,Nat.reduceLeDiff,eq_self,and_self,Q1,Q2,Q3,Q6,aload,acells,getArr,part,astore,putCells,Z8,Y0,cellOk,Z9,Z2,Z1,Z4,Z6,Y1,Q3,Q6,Q0,c,ir,call,hap_get0,hap_get,hap_set0,hap_set,Z3,Z5,p1,ge,pg,a1,a2,a3',a4,hw]
    ·have a3' : decide (c1 = o1) = false := decide_eq_false a3
     simp only [loop_e,EB_tree_costs_2,Zaa,Zab,Zac,Zad,Zae,Zag,Zaj,Zak,Zan,Zar,Zas,Zau,Zay,Zaz,Zba,Zbb,Zbc,Zbe,Zbg,Zbh,Zbi,Zbj,Zbk,Zbl,Zbm,Zbo,Zbp,Zbq,Zby,Zcb,Zcf,Zcp,Zcq,Zcv,Zcw,Zcx,Zcy,Zcz,Zda,Zdb,Zdc,Zdd,Q0,Q7,Q4,Q5,Z7,Zde,Zdh,Zdl,Zdx,Zdz,Zea,Zeb,Zem,decide_true,decide_false,Q9,Z0,Q1,Q2,if_true,Nat.reduceAdd,Nat.reduceLeDiff,eq_self,and_self,Q1,Q2,Q3,Q6,aload,acells,getArr,part,astore,putCells,Z8,Y0,cellOk,Z9,Z2,Z1,Z4,Z6,Y1,Q3,Q6,Q0,c,ir,call,hap_get0,hap_get,hap_set0,hap_set,Z3,Z5,p1,ge,pg,a1,a2,a3',hw]
theorem costs_1 (hg : GramR g) (N : Nat) (hN : g.rules.length < N) : ∀ (k m : Nat) (l L : List (Int × Int)) (h : AHeap), Steps cUpd g.rules k l L → k + 1 < m → h[0]? = some (.arr 0 5 true [eGram g]) → h[1]? = some (.arr 0 2 true (l.map eP)) → COk g.nonterms.length l →
  ∃ h', loopN (evalCode (lim G0.cfg) N B_tree_costs_1) m ⟨(J::.ptr 0 0 0 0::J::.hsl 1 0 0 g.nonterms.length none::J::.bool true::J::J::J::J::J::J::J::J::J::J::J::J::J::J::J::J::J::J::J::J::J::J::J::J::J::J::J::J::J::J::J::J::J::J::J::J::J::J::J::J::J::J::J::J::J::J::J::J::J::J::J::J::J::J::J::J::J::J::J::J::J::J::J::J::J::J::J::J::J::J::J::J::[]), h⟩ = some (.exit 2, ⟨(J::J::J::.hsl 1 0 0 g.nonterms.length none::J::J::J::J::J::J::J::J::J::J::J::J::J::J::J::J::J::J::J::J::J::J::J::J::J::J::J::J::J::J::J::J::J::J::J::J::J::J::J::J::J::J::J::J::J::J::J::J::J::J::J::J::J::J::J::J::J::J::J::J::J::J::J::J::J::J::J::J::J::J::J::J::J::J::[]), h'⟩) ∧ h'[1]? = some (.arr 0 2 true (L.map eP)) ∧ COk g.nonterms.length L := by
 intro k
 induction k with
 | zero =>
  intro m l L h st h1 e0 e1 ok
  obtain ⟨m, rfl⟩ : ∃ q, m = q + 2 := ⟨m - 2, by omega⟩
  obtain ⟨h', k1, k2, k3, k4⟩ := costs_2 hg N g.rules.length 0 N l false h (by omega) hN e0 e1 ok
  obtain ⟨l1, l2, l3⟩ := ld_g h e0
  rw [Z2] at k1 k3
  rw [st.1, z0] at k1
  rw [(roundU_same cUpd g.rules l st.1).2] at k3
  rw [st.2]
  refine ⟨h', ?_, k3, ok⟩
  simp only [loop_e,EB_tree_costs_1,Zaa,Zab,Zac,Zad,Zae,Zaf,Zag,Zah,Zaj,Zak,Zal,Zan,Zap,Zar,Zas,Zat,Zau,Zav,Zay,Zbi,Zbk,Zbo,Zby,Zcg,Zcv,Zcw,Zcx,Zdb,Zdc,Zdd,Q0,Q7,Q4,Q5,Zdt,Zdx,Nat.reduceAdd,eq_self,List.length_map,l2,k1]
 | succ k ih =>
  intro m l L h st h1 e0 e1 ok
  obtain ⟨m, rfl⟩ : ∃ q, m = q + 1 := ⟨m - 1, by omega⟩
  obtain ⟨h', k1, k2, k3, k4⟩ := costs_2 hg N g.rules.length 0 N l false h (by omega) hN e0 e1 ok
  obtain ⟨l1, l2, l3⟩ := ld_g h e0
  rw [Z2] at k1 k3 k4
  rw [st.1, z0] at k1
  obtain ⟨h2, j1, j2⟩ := ih m _ L h' st.2 (by omega) k2 k3 k4
  refine ⟨h2, ?_, j2⟩
  rw [← j1]
  simp only [loop_e,EB_tree_costs_1,Zaa,Zab,Zac,Zad,Zae,Zaf,Zag,Zaj,Zak,Zan,Zap,Zar,Zat,Zau,Zay,Zbi,Zbk,Zbo,Zby,Zcg,Zcv,Zcw,Zcx,Zdb,Zdc,Zdd,Q0,Q7,Q4,Q5,Zdt,Zdx,Nat.reduceAdd,eq_self,List.length_map,l2,k1]
theorem cok0 (n : Nat) : COk n (Q8 n (-1, 0)) := by
 refine ⟨by simp, fun c hc => ?_⟩
 rw [List.eq_of_mem_replicate hc]
 refine ⟨.inl rfl, Int.le_refl _, ?_⟩
 have : cm1 (Q8 n ((-1 : Int), (0 : Int))) = n * 1099511627777 := by
  unfold cm1
  rw [List.map_replicate, List.sum_replicate_nat]
  rfl
 rw [this]
 simp only
 omega
theorem f_costs (hg : GramR g) : ∃ (L : List (Int × Int)) (x : AV), (∃ k, Steps cUpd g.rules k (Q8 g.nonterms.length (-1, 0)) L) ∧ LiP L x ∧ COk g.nonterms.length L ∧ ∀ H, lim G0.cfg (.func 52) [.agg (eGram g)] H = some (x, H) := by
 obtain ⟨k, L, hk⟩ := costs_ex hg.vr
 have nt := hg.good.nt
 obtain ⟨N, hN⟩ : ∃ N, N = k + g.rules.length + g.nonterms.length + 2000 := ⟨_, rfl⟩
 have mk := amk_n (h := [.arr 0 5 true [eGram g]]) (k := .i64) (k' := .i64) (n := g.nonterms.length) (by omega) 2 16 [.int .i64 0, .int .i64 0] (by omega)
 have er : ∀ n : Nat, Q8 n [AV.int .i64 0, AV.int .i64 0] = (Q8 0 ((-1 : Int), (0 : Int)) ++ Q8 n (0, 0)).map eP := fun n => by simp [eP]
 rw [er] at mk
 have c0 := fun h e0 e1 => costs_0 hg N g.nonterms.length 0 N h (by omega) (by omega) e0 e1
 obtain ⟨l0, hl0⟩ : ∃ l, l = Q8 0 ((-1 : Int), (0 : Int)) ++ Q8 g.nonterms.length (0, 0) := ⟨_, rfl⟩
 rw [← hl0] at mk c0
 obtain ⟨h1, a1, a2, a3⟩ := c0 [.arr 0 5 true [eGram g], .arr 0 2 true (l0.map eP)] rfl rfl
 rw [z0] at a1
 obtain ⟨h2, b1, b2, ok⟩ := costs_1 hg N (by omega) k N _ L h1 hk (by omega) a2 a3 (cok0 _)
 obtain ⟨x, c, f1, g1⟩ := fzP b2 998
 rw [ok.len] at f1
 refine ⟨L, x, ⟨k, hk⟩, g1, ok, fun H => lim_at rfl rfl P_tree_costs N (fun h => fz_1 (fz_gram g h)) ?_ f1 H⟩
 obtain ⟨l1, l2, l3⟩ := ld_g (g := g) [.arr 0 5 true [eGram g]] rfl
 rw [R_tree_costs]
 simp only [Zab,Zac,Zae,Zaf,Zag,Zai,Zaj,Zak,Zap,Zat,Zay,Zaz,Zbi,Zbk,Zbn,Zbo,Zbv,Zby,Zcg,Zcs,Zcu,Zcv,Zcw,Zcx,Zdb,Zdc,Zdd,Q0,Q7,Q4,Q5,Option.map_some,Zdt,Zdv,Zdx,Zeb,Zeq,Q1,Q2,if_true,Nat.reduceAdd,Nat.reduceSub,eq_self,Q1,Q2,List.replicate_succ,List.replicate_zero,Q3,Q6,l1,mk,a1,b1,resAll,resVals,resVal]
end
end Go.Proofs.Ytkimloceaihplaa.Ai
