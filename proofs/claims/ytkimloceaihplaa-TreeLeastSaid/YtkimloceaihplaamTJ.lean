/- tree.Short: the closures that choose a rule, walked. -/
import Derived.Test.YtkimloceaihplaamTI
namespace Go.Proofs.Ytkimloceaihplaa.Ai
open Go Go.Proofs
open AV renaming junk → J
open List renaming set_cons_zero → Q0, length_cons → Q1, cons_append → Q2, getD_cons_zero → Q3, getD_cons_succ → Q4, length_nil → Q5, nil_append → Q6, set_cons_succ → Q7, replicate_succ → Q8, replicate_zero → Q9, getElem?_cons_zero → Z0, getElem?_cons_succ → Z2, drop_succ_cons → Z3, take_succ_cons → Z4, drop_zero → Z5
open Option renaming map_some → Z1
set_option linter.unusedVariables false
set_option linter.unusedSimpArgs false
set_option maxRecDepth 10000
set_option maxHeartbeats 4000000
theorem ab_pair (a b c d : Int) : abin .eql (.struct [.int, .int]) (.agg [.int .i64 a, .int .i64 b]) (.agg [.int .i64 c, .int .i64 d]) = some (.bool (decide (a = c ∧ b = d))) := by
 by_cases h1 : a = c
 ·by_cases h2 : b = d
  ·simp [abin, aeq, aeqs, aeq1, h1, h2]
  ·simp [abin, aeq, aeqs, aeq1, h1, h2]
 ·simp [abin, aeq, aeqs, aeq1, h1]
theorem fz_cell {h : AHeap} {d i : Nat} {x : Bool} {v y : AV} {c : Bool} (hi : h[i]? = some (.arr 0 1 x [[v]])) (hv : freeze h d v = some (y, c)) : freeze h (d + 1) (.ptr i 0 0 0) = some (.vptr [y] 0, false) := by
 simp only [freeze,getArr,hi,if_true,Z0,mapO,hv,Z1,List.map_cons,List.map_nil]
theorem fz_fn2 {h : AHeap} {d f : Nat} {a b x y : AV} {ca cb : Bool} (ha : freeze h d a = some (x, ca)) (hb : freeze h d b = some (y, cb)) : freeze h (d + 1) (.fn (.func f) [] [a, b]) = some (.fn (.func f) [] [x, y], true && (ca && (cb && true))) := by
 simp only [freeze,mapO,ha,hb,List.map_cons,List.map_nil,List.all_cons,List.all_nil]
def isR (L : List (Int × Int)) (s : Int) (r : RuleD) : Bool := match ruleGo L r.right (0, 1) with
 | none => false
 | some c => decide (-1 - s = r.left) && decide (c = L.getD (nx s) (-1, 0))
section
variable {g : GramD} {L : List (Int × Int)} {w : AV} {s : Int}
theorem f_Short_1_1 (hg : GramR g) (hl : LiP L w) (ok : COk g.nonterms.length L) (hi : inI64 s) (hs : s < 0) {r : RuleD} (mem : r ∈ g.rules) (h : AHeap) : ∃ h', lim G0.cfg (.func 55) [.agg (eRule r), .vptr [w] 0, .vptr [.int .i64 s] 0] h = some (.bool (isR L s r), h') := by
 have nt := hg.good.nt
 obtain ⟨v1, v2, v3⟩ := hg.vr r mem
 have v4 := (hg.sym mem).1
 have call := f_ruleC (r := r) hl (ok.cb (by omega)) (by omega) v3 (by omega)
 have w1 : IntKind.i64.wrap (-1 - s) = -1 - s := w64 (by unfold inI64 at hi; omega) (by unfold inI64 at hi; omega)
 unfold isR
 cases hc : ruleGo L r.right (0, 1) with
 | none =>
  rw [hc] at call
  simp only [rE] at call
  refine ⟨h ++ [.arr 0 5 true [eRule r], .arr 0 2 true [[.int .i64 0, .int .i64 0]]], lim_func rfl P_tree_Short_1_1 1 ?_⟩
  rw [R_tree_Short_1_1]
  simp only [Zab,Zac,Zai,Zaj,Zak,Zay,Zaz,Zba,Zbe,Zbh,Zbi,Zbj,Zbk,Zbl,Zbm,Zbn,Zbo,Zbp,Zcf,Zcp,Zcq,Zcs,Zcu,Zcv,Zcw,Zcx,Zcy,Zcz,Zda,Q0,Q7,Q3,Q4,Option.bind_some,Z1,Zdz,Zea,Zeb,Zem,Z0,Z2,Q1,Q5,if_true,Nat.reduceAdd,Nat.reduceSub,Nat.reduceLeDiff,Int.reduceNeg,eq_self,and_self,Q1,Q5,Q8,Q9,Q2,Q6,aload,acells,getArr,part,astore,putCells,List.all_cons,List.all_nil,cellOk,Bool.and_self,Z5,Z3,Z4,List.take_zero,List.take_nil,Q2,Q6,Q0,call,hap_get0,hap_get,hap_set,List.append_assoc,List.length_append,resAll,resVals,resVal]
 | some c =>
  obtain ⟨c1, c2⟩ := c
  rw [hc] at call
  simp only [rE] at call
  refine ⟨h ++ [.arr 0 5 true [eRule r], .arr 0 2 true [[.int .i64 c1, .int .i64 c2]]], lim_func rfl P_tree_Short_1_1 1 ?_⟩
  rw [R_tree_Short_1_1]
  by_cases p : -1 - s = r.left
  ·have k1 : nx s < L.length := by rw [ok.len]; unfold nx; omega
   have xy := fun h => hl.ix h (nx s) k1
   have eN : ((nx s : Nat) : Int) = -1 - s := by unfold nx; omega
   rw [eN, ← getD_get k1 (-1, 0)] at xy
   obtain ⟨K, hK⟩ : ∃ K, K = L.getD (nx s) (-1, 0) := ⟨_, rfl⟩
   rw [← hK] at xy ⊢
   obtain ⟨K1, K2⟩ := K
   have dp : decide (-1 - s = r.left) = true := decide_eq_true p
   simp only [Zab,Zac,Zai,Zaj,Zak,Zay,Zaz,Zba,Zbb,Zbg,Zbi,Zbj,Zbk,Zbl,Zbm,Zbn,Zbo,Zbp,Zbq,Zby,Zcb,Zcf,Zcp,Zcq,Zcs,Zcu,Zcv,Zcw,Zcx,Zcy,Zcz,Zda,Q0,Q7,Q3,Q4,Option.bind_some,Z1,Zdf,Zdl,Zdx,Zdz,Zea,Zeb,Zem,Z0,Z2,Q1,Q5,if_true,Nat.reduceAdd,Nat.reduceSub,Nat.reduceLeDiff,Int.reduceNeg,eq_self,and_self,Q1,Q5,Q8,Q9,Q2,Q6,aload,acells,getArr,part,astore,putCells,List.all_cons,List.all_nil,cellOk,Bool.and_self,Z5,Z3,Z4,List.take_zero,List.take_nil,Q2,Q6,Q0,call,w1,dp,xy,ab_pair,hap_get0,hap_get,hap_set,List.append_assoc,List.length_append,resAll,resVals,resVal,Prod.mk.injEq,Bool.true_and]
  ·have dp : decide (-1 - s = r.left) = false := decide_eq_false p
   simp only [Zab,Zac,Zai,Zaj,Zak,Zay,Zaz,Zba,Zbb,Zbe,Zbg,Zbh,Zbi,Zbj,Zbk,Zbl,Zbm,Zbn,Zbo,Zbp,Zbq,Zby,Zcf,Zcp,Zcq,Zcs,Zcu,Zcv,Zcw,Zcx,Zcy,Zcz,Zda,Q0,Q7,Q3,Q4,Option.bind_some,Z1,Zdf,Zdl,Zdx,Zdz,Zea,Zeb,Zem,Z0,Z2,Q1,Q5,if_true,Nat.reduceAdd,Nat.reduceSub,Nat.reduceLeDiff,Int.reduceNeg,eq_self,and_self,Q1,Q5,Q8,Q9,Q2,Q6,aload,acells,getArr,part,astore,putCells,List.all_cons,List.all_nil,cellOk,Bool.and_self,Z5,Z3,Z4,List.take_zero,List.take_nil,Q2,Q6,Q0,call,w1,dp,hap_get0,hap_get,hap_set,List.append_assoc,List.length_append,resAll,resVals,resVal,Bool.false_and]
theorem f_IndexR (hg : GramR g) (hl : LiP L w) (ok : COk g.nonterms.length L) (hi : inI64 s) (hs : s < 0) (N : Nat) (hN : g.rules.length < N) : ∃ h',
  runFn (lim G0.cfg) N A_slices_IndexFunc_sRule_Rule [.vsl false (g.rules.map eRule), .fn (.func 55) [] [.vptr [w] 0, .vptr [.int .i64 s] 0]] [] = some (.int .i64 (if g.rules.findIdx (isR L s) = g.rules.length then -1 else (g.rules.findIdx (isR L s) : Nat)), h') := by
 have hgl := hg.ok.rules
 rw [maxLen_eq] at hgl
 have loop : ∀ (d i m : Nat) (h : AHeap), g.rules.length = i + d → d < m → ∃ h', loopN (evalCode (lim G0.cfg) N B_slices_IndexFunc_sRule_Rule_0) m ⟨[.vsl false (g.rules.map eRule), .fn (.func 55) [] [.vptr [w] 0, .vptr [.int .i64 s] 0], J,J,J,J,J, .int .i64 g.rules.length, .int .i64 i, J,J,J,J,J,J,J,J,J,J], h⟩ =
   if (g.rules.drop i).findIdx (isR L s) = (g.rules.drop i).length then some (.exit 0, ⟨[J,J,J,J,J,J,J,J,J,J,J,J,J,J,J,J,J,J,J], h'⟩) else some (.ret, ⟨[J,J,J,J, .int .i64 ((i + (g.rules.drop i).findIdx (isR L s) : Nat) : Int), J,J,J,J,J,J,J,J,J,J,J,J,J,J], h'⟩) := by
  intro d
  induction d with
  | zero =>
   intro i m h h1 h2
   obtain ⟨m, rfl⟩ : ∃ q, m = q + 1 := ⟨m - 1, by omega⟩
   have h3 : ¬ ((i : Int) < g.rules.length) := by omega
   have q1 : g.rules.drop i = [] := List.drop_eq_nil_iff.2 (by omega)
   refine ⟨h, ?_⟩
   rw [q1, if_pos (by simp)]
   simp only [loop_e,EB_slices_IndexFunc_sRule_Rule_0,Zab,Zac,Zad,Zag,Zah,Zaj,Zak,Zal,Zas,Zav,Zay,Zbi,Zbq,Zcv,Zcx,Zdc,Zdd,Q0,Q7,Q3,Q4,Zdh,decide_false,eq_self,h3]
  | succ d ih =>
   intro i m h h1 h2
   obtain ⟨m, rfl⟩ : ∃ q, m = q + 1 := ⟨m - 1, by omega⟩
   have h3 : i < g.rules.length := by omega
   have h3' : (i : Int) < g.rules.length := by omega
   have hw := w64s (n := i) (by omega)
   have q1 : g.rules.drop i = g.rules[i] :: g.rules.drop (i + 1) := List.drop_eq_getElem_cons h3
   have ir := fun h => ix_map eRule h 5 false g.rules .i64 i h3 rfl
   obtain ⟨ha, fs⟩ := f_Short_1_1 hg hl ok hi hs (List.getElem_mem h3) h
   obtain ⟨r, hr⟩ : ∃ r, r = g.rules[i] := ⟨_, rfl⟩
   rw [← hr] at ir fs q1
   have rf := rule_f r
   rw [q1, List.findIdx_cons]
   cases e2 : isR L s r with
   | true =>
    rw [e2] at fs
    refine ⟨ha, ?_⟩
    rw [cond_true, if_neg (by rw [Q1]; omega)]
    simp only [loop_e,EB_slices_IndexFunc_sRule_Rule_0,Zaa,Zab,Zac,Zad,Zae,Zag,Zai,Zaj,Zak,Zam,Zao,Zar,Zaw,Zay,Zaz,Zbi,Zbk,Zbo,Zbq,Zcb,Zcp,Zcq,Zcv,Zcx,Zcz,Zda,Zdb,Zdc,Zdd,Q0,Q7,Q3,Q4,Zdh,decide_true,eq_self,Q2,Q6,h3',ir,rf,fs,Nat.add_zero]
   | false =>
    rw [e2] at fs
    obtain ⟨h', e3⟩ := ih (i + 1) m ha (by omega) (by omega)
    refine ⟨h', ?_⟩
    rw [cond_false]
    have e4 : loopN (evalCode (lim G0.cfg) N B_slices_IndexFunc_sRule_Rule_0) (m + 1) ⟨[.vsl false (g.rules.map eRule), .fn (.func 55) [] [.vptr [w] 0, .vptr [.int .i64 s] 0], J,J,J,J,J, .int .i64 g.rules.length, .int .i64 i, J,J,J,J,J,J,J,J,J,J], h⟩ = loopN (evalCode (lim G0.cfg) N B_slices_IndexFunc_sRule_Rule_0) m ⟨[.vsl false (g.rules.map eRule), .fn (.func 55) [] [.vptr [w] 0, .vptr [.int .i64 s] 0], J,J,J,J,J, .int .i64 g.rules.length, .int .i64 ((i + 1 : Nat) : Int), J,J,J,J,J,J,J,J,J,J], ha⟩ := by
     simp only [loop_e,EB_slices_IndexFunc_sRule_Rule_0,Zaa,Zab,Zac,Zad,Zae,Zag,Zaj,Zak,Zan,Zar,Zas,Zau,Zay,Zaz,Zbi,Zbk,Zbo,Zbq,Zcb,Zcp,Zcq,Zcv,Zcw,Zcx,Zcz,Zda,Zdb,Zdc,Zdd,Q0,Q7,Q3,Q4,Zde,Zdh,decide_true,eq_self,Q2,Q6,h3',ir,rf,fs,hw]
    rw [e4, e3, Q1]
    by_cases e5 : (g.rules.drop (i + 1)).findIdx (isR L s) = (g.rules.drop (i + 1)).length
    ·rw [if_pos e5, if_pos (by omega)]
    ·rw [if_neg e5, if_neg (by omega), show i + 1 + (g.rules.drop (i + 1)).findIdx (isR L s) = i + ((g.rules.drop (i + 1)).findIdx (isR L s) + 1) by omega]
 obtain ⟨h', e⟩ := loop g.rules.length 0 N [] (by omega) hN
 rw [Z5, z0, Nat.zero_add] at e
 refine ⟨h', ?_⟩
 rw [R_slices_IndexFunc_sRule_Rule]
 by_cases q : g.rules.findIdx (isR L s) = g.rules.length
 ·rw [if_pos q] at e
  rw [if_pos q]
  simp only [Zab,Zac,Zae,Zaf,Zag,Zai,Zaj,Zak,Zap,Zat,Zay,Zbi,Zbk,Zcg,Zcu,Zcv,Zcw,Zcx,Zdb,Zdc,Zdd,Q0,Q7,Q3,Q4,Z1,Zdt,Q1,Q5,Nat.reduceAdd,Nat.reduceSub,Int.reduceNeg,eq_self,List.length_map,Q1,Q5,Q8,Q9,Q2,Q6,e,resAll,resVals,resVal]
 ·rw [if_neg q] at e
  rw [if_neg q]
  simp only [Zab,Zac,Zae,Zaf,Zag,Zaj,Zak,Zam,Zao,Zat,Zay,Zbi,Zbk,Zcg,Zcu,Zcv,Zcw,Zcx,Zdb,Zdc,Zdd,Q0,Q7,Q3,Q4,Z1,Zdt,Q1,Q5,Nat.reduceAdd,Nat.reduceSub,Int.reduceNeg,eq_self,List.length_map,Q1,Q5,Q8,Q9,Q2,Q6,e,resAll,resVals,resVal]
theorem f_IndexS (hg : GramR g) (hl : LiP L w) (ok : COk g.nonterms.length L) (hi : inI64 s) (hs : s < 0) {a b : Nat} {xa xb : Bool} {H : AHeap} (ea : H[a]? = some (.arr 0 1 xa [[w]])) (eb : H[b]? = some (.arr 0 1 xb [[.int .i64 s]])) : lim G0.cfg (.func 54) [.vsl false (g.rules.map eRule), .fn (.func 55) [] [.ptr a 0 0 0, .ptr b 0 0 0]] H = some (.int .i64 (if g.rules.findIdx (isR L s) = g.rules.length then -1 else (g.rules.findIdx (isR L s) : Nat)), H) := by
 obtain ⟨h', e⟩ := f_IndexR hg hl ok hi hs (g.rules.length + 1) (by omega)
 have fw : ∀ d (h : AHeap), freeze h (d + 1) w = some (w, true) := fun d h => by
  rcases hl with ⟨_, rfl⟩ | ⟨e, rfl⟩ <;> rfl
 have ff := fz_fn2 (f := 55) (fz_cell (d := 998) ea (fw 997 H)) (fz_cell (d := 998) eb (rfl : freeze H 998 (.int .i64 s) = some (.int .i64 s, true)))
 refine lim_fz rfl rfl P_slices_IndexFunc_sRule_Rule (g.rules.length + 1) (l := [(.vsl false (g.rules.map eRule), true), (.fn (.func 55) [] [.vptr [w] 0, .vptr [.int .i64 s] 0], true && (false && (false && true)))]) ?_ e (rfl : freeze h' 1000 (.int .i64 _) = some (.int .i64 _, true)) (Bool.or_true _)
 have i1 : freeze H 1000 (.vsl false (g.rules.map eRule)) = some (.vsl false (g.rules.map eRule), true) := rfl
 simp only [mapO,i1,ff]
end
end Go.Proofs.Ytkimloceaihplaa.Ai
namespace Go.Proofs.Ytkimloceaihplaa.Ai
open Go Go.Proofs
open AV renaming junk → J
open List renaming set_cons_zero → Q0, getD_cons_zero → Q1, getD_cons_succ → Q2, length_cons → Q3, set_cons_succ → Q4, length_nil → Q5, nil_append → Q6, getElem?_cons_zero → Q7, getElem?_cons_succ → Q8, cons_append → Q9, drop_succ_cons → Z0, take_succ_cons → Z1, take_zero → Z2, drop_zero → Z4, all_cons → Z5, take_nil → Z7, all_nil → Z9, replicate_succ → Y0, replicate_zero → Y1
open Option renaming bind_some → Z3, map_some → Z8
open Bool renaming and_self → Z6
set_option linter.unusedVariables false
set_option linter.unusedSimpArgs false
set_option maxRecDepth 10000
set_option maxHeartbeats 4000000
structure KOneQ (Q : Int → Prop) {X : Type} (g : Nat) (first caps : List AV) (Inv : Nat → X → AHeap → Prop) (f : Int → X → (T × Int) × X) : Prop where
 app : ∀ {p x h}, Inv p x h → ∀ l, Inv p x (h ++ l)
 set : ∀ {p x h}, Inv p x h → ∀ {j : Nat} {c}, h[j]? = some (.arr 0 3 true c) → ∀ c', Inv p x (h.set j (.arr 0 3 true c'))
 run : ∀ p s x h, Q s → Inv (p + 1) x h → ∃ c h', lim G0.cfg (.func g) (first ++ [.int .i64 s] ++ caps) h = some (.tup [.agg c, .int .i64 (f s x).1.2], h') ∧ Cel c ∧ Keep h h' ∧ ((f s x).1.2 = 0 → RepT h' h.length (f s x).1.1 c ∧ Inv p (f s x).2 h') ∧ ((f s x).1.2 ≠ 0 → c = [.int .i64 0, .int .i64 0, .nilS])
theorem f_kidsQ {Q : Int → Prop} {X : Type} {F : Nat} {first caps : List AV} {Inv : Nat → X → AHeap → Prop} {f : Int → X → (T × Int) × X} (hy : KOneQ Q F first caps Inv f) (g : GramD) (b : Nat) (mv lf sz yv : AV) (kn : Nat) (r : RuleD) (hr : g.rules[kn]? = some r) (hkn : kn < 9223372036854775807) (hn : r.right.length ≤ 1000) (hs : ∀ s ∈ r.right, Q s) (hl0 : 0 ≤ r.left ∧ r.left < 9223372036854775807)
  (p : Nat) (x : X) (h : AHeap) (hI : Inv (p + r.right.length) x h) (hb : h[b]? = some (.arr 0 9 true [eMk g mv lf sz yv])) :
  ∃ c h', lim G0.cfg (.func 45) [.ptr b 0 0 0, .int .i64 kn, .fn (.func F) first caps] h = some (.tup [.agg c, .int .i64 (kidsOf g f kn x).1.2], h') ∧ Cel c ∧ Keep h h' ∧ ((kidsOf g f kn x).1.2 = 0 → RepT h' h.length (kidsOf g f kn x).1.1 c ∧ Inv p (kidsOf g f kn x).2 h') ∧ ((kidsOf g f kn x).1.2 ≠ 0 → c = [.int .i64 0, .int .i64 0, .nilS]) := by
 obtain ⟨b0, hb0⟩ : ∃ b0, b0 = h.length := ⟨_, rfl⟩
 obtain ⟨o6, ho6⟩ : ∃ o : AObj, o = .arr 0 3 true [[.int .i64 0, .int .i64 0, .nilS]] := ⟨_, rfl⟩
 obtain ⟨o8, ho8⟩ : ∃ o : AObj, o = .arr 0 5 true [eRule r] := ⟨_, rfl⟩
 obtain ⟨o9, ho9⟩ : ∃ o : AObj, o = .arr 0 3 true [[.int .i64 (-1 - r.left), .int .i64 kn, .hsl (b0 + 3) 0 0 r.right.length none]] := ⟨_, rfl⟩
 have n6 : ¬ Soft o6 := ho6 ▸ soft3
 have n8 : ¬ Soft o8 := ho8 ▸ soft5
 have n9 : ¬ Soft o9 := ho9 ▸ soft3
 have loop : ∀ (d m : Nat) (x : X) (acc : List T) (rows : List (List AV)) (h1 : AHeap), d ≤ r.right.length → d < m → b0 + 4 ≤ h1.length → Keep h h1 → h1[b0]? = some o6 → h1[b0 + 1]? = some o8 → h1[b0 + 2]? = some o9 → h1[b0 + 3]? = some (.arr 0 3 true rows) →
   rows.length = r.right.length → (∀ c ∈ rows, c.length = 3) → RepTs h1 (b0 + 4) acc (rows.drop d) → Inv (p + d) x h1 → ∃ h2, Keep h h2 ∧
    ((kidsGo f (r.right.take d).reverse acc x).1.2 = 0 → loopN (evalCode (lim G0.cfg) (r.right.length + 1) B_tree_maker_kids_0) m ⟨(J::J::.fn (.func F) first caps::J::J::J::.ptr b0 0 0 0::J::.ptr (b0 + 1) 0 0 0 :: .ptr (b0 + 2) 0 0 0 :: .int .i64 ((d : Int) - 1)::J::J::J::J::J::J::J::J::J::J::J::J::J::J::J::J::J::J::J::J::J::J::J::J::J::J::J::J::J::J::J::J::J::J::J::J::J::J::J::J::J::J::J::J::J::J::J::J::J::J::J::J::[]), h1⟩ = some (.exit 0, ⟨(J::J::J::J::J::J::.ptr b0 0 0 0::J::J::.ptr (b0 + 2) 0 0 0::J::J::J::J::J::J::J::J::J::J::J::J::J::J::J::J::J::J::J::J::J::J::J::J::J::J::J::J::J::J::J::J::J::J::J::J::J::J::J::J::J::J::J::J::J::J::J::J::J::J::J::J::J::[]), h2⟩) ∧
     h2[b0]? = some o6 ∧ h2[b0 + 2]? = some o9 ∧ ∃ rows', h2[b0 + 3]? = some (.arr 0 3 true rows') ∧ RepTs h2 (b0 + 4) (kidsGo f (r.right.take d).reverse acc x).1.1 rows' ∧ Inv p (kidsGo f (r.right.take d).reverse acc x).2 h2) ∧
    ((kidsGo f (r.right.take d).reverse acc x).1.2 ≠ 0 → loopN (evalCode (lim G0.cfg) (r.right.length + 1) B_tree_maker_kids_0) m ⟨(J::J::.fn (.func F) first caps::J::J::J::.ptr b0 0 0 0::J::.ptr (b0 + 1) 0 0 0 :: .ptr (b0 + 2) 0 0 0 :: .int .i64 ((d : Int) - 1)::J::J::J::J::J::J::J::J::J::J::J::J::J::J::J::J::J::J::J::J::J::J::J::J::J::J::J::J::J::J::J::J::J::J::J::J::J::J::J::J::J::J::J::J::J::J::J::J::J::J::J::J::[]), h1⟩ = some (.ret, ⟨(J::J::J::J::J::J::.ptr b0 0 0 0 :: .int .i64 (kidsGo f (r.right.take d).reverse acc x).1.2::J::J::J::J::J::J::J::J::J::J::J::J::J::J::J::J::J::J::J::J::J::J::J::J::J::J::J::J::J::J::J::J::J::J::J::J::J::J::J::J::J::J::J::J::J::J::J::J::J::J::J::J::J::J::J::[]), h2⟩) ∧ h2[b0]? = some o6) := by
  intro d
  induction d with
  | zero =>
   intro m x acc rows h1 g1 g2 g3 k1 e6 e8 e9 ea rl rc rr hI
   obtain ⟨m, rfl⟩ : ∃ q, m = q + 1 := ⟨m - 1, by omega⟩
   have z : ((0 : Nat) : Int) - 1 = -1 := rfl
   rw [z, Z2, List.reverse_nil]
   refine ⟨h1, k1, fun _ => ⟨?_, e6, e9, rows, ea, by simpa [kidsGo] using rr, by simpa [kidsGo] using hI⟩, fun q => absurd rfl q⟩
   simp only [loop_e,EB_tree_maker_kids_0,Zab,Zac,Zad,Zag,Zah,Zaj,Zak,Zal,Zas,Zav,Zay,Zbi,Zbk,Zbq,Zcv,Zcw,Zcx,Zdb,Zdc,Zdd,Q0,Q4,Q1,Q2,Zdk,decide_false,Int.reduceNeg,Int.reduceLE,eq_self]
  | succ d ihd =>
   intro m x acc rows h1 g1 g2 g3 k1 e6 e8 e9 ea rl rc rr hI
   obtain ⟨m, rfl⟩ : ∃ q, m = q + 1 := ⟨m - 1, by omega⟩
   have hd : d < r.right.length := by omega
   have z : ((d + 1 : Nat) : Int) - 1 = d := by omega
   have e1 : (r.right.take (d + 1)).reverse = r.right[d] :: (r.right.take d).reverse := by
    rw [List.take_succ_eq_append_getElem hd, List.reverse_append]; rfl
   have hge : (0 : Int) ≤ (d : Int) := by omega
   have hw : IntKind.i64.wrap ((d : Int) - 1) = (d : Int) - 1 := w64 (by omega) (by omega)
   have hmem : r.right[d] ∈ r.right := List.getElem_mem hd
   obtain ⟨c, h2, hc, cel, kc, ok, _⟩ := hy.run (p + d) r.right[d] x h1 (hs _ hmem) hI
   have xi := fun h => ix_eIs h false r.right .i64 d hd
   rw [z, e1]
   simp only [kidsGo]
   have f6 := kc _ _ e6 n6
   have f8 := kc _ _ e8 n8
   have f9 := kc _ _ e9 n9
   have fa := kc _ _ ea soft3
   obtain ⟨ca, cb, kv, rfl, hkv⟩ := cel
   by_cases q : (f r.right[d] x).1.2 = 0
   case neg =>
    have hh := get_app f6 [AObj.arr 0 3 true [[.int .i64 ca, .int .i64 cb, kv]]]
    refine ⟨(h2 ++ [AObj.arr 0 3 true [[.int .i64 ca, .int .i64 cb, kv]]]).set b0 o6, ((k1.trans kc).trans (Keep.app _ _)).setN (by omega) _, fun q' => absurd (by simp [q] at q') q, fun _ => ⟨?_, get_set_eq hh⟩⟩
    rw [if_pos q]
    rw [ho6] at f6 hh ⊢
    rw [ho8] at e8
    have hne : b0 ≠ h2.length := fun e => by have := get_len f6; omega
    rcases hkv with rfl | ⟨i, j, rfl⟩ <;> simp only [loop_e,EB_tree_maker_kids_0,Zaa,Zab,Zac,Zad,Zae,Zag,Zai,Zaj,Zak,Zam,Zao,Zar,Zaw,Zay,Zaz,Zba,Zbi,Zbk,Zbm,Zbo,Zbp,Zbq,Zby,Zcb,Zcf,Zcm,Zcp,Zcq,Zcv,Zcw,Zcx,Zcy,Zcz,Zda,Zdb,Zdc,Zdd,Q0,Q4,Q1,Q2,Z3,Z8,Zdk,Zdm,Zdx,Zdz,Zeb,Zem,decide_true,decide_false,Bool.not_false,Q7,Q8,Q3,Q5,if_true,Nat.reduceAdd,Nat.reduceLeDiff,eq_self,and_self,aload,acells,getArr,part,eI,astore,putCells,get_new,set_new,Z5,Z9,cellOk,Z6,Z4,Z0,Z1,Z2,Z7,Q9,Q6,Q0,hge,e8,xi,hc,q,hh,afill,evp,fillCells]
   case pos =>
    rw [if_neg (fun e => e q)]
    obtain ⟨rep, hI2⟩ := ok q
    have hlen2 := get_len fa
    have hrd : d < rows.length := by omega
    have hcd : rows[d].length = 3 := rc _ (List.getElem_mem hrd)
    obtain ⟨h3, hh3⟩ : ∃ h3, h3 = (h2 ++ [AObj.arr 0 3 true [[.int .i64 ca, .int .i64 cb, kv]]]).set (b0 + 3) (.arr 0 3 true (rows.set d [.int .i64 ca, .int .i64 cb, kv])) := ⟨_, rfl⟩
    have fa' := get_app fa [AObj.arr 0 3 true [[.int .i64 ca, .int .i64 cb, kv]]]
    have f9' := get_app f9 [AObj.arr 0 3 true [[.int .i64 ca, .int .i64 cb, kv]]]
    have kk : Keep h h3 := hh3 ▸ ((k1.trans kc).trans (Keep.app _ _)).setN (by omega) _
    obtain ⟨h4, k4, s1, s2⟩ := ihd m (f r.right[d] x).2 ((f r.right[d] x).1.1 :: acc) (rows.set d [.int .i64 ca, .int .i64 cb, kv]) h3 (by omega) (by omega) (by rw [hh3]; simp; omega) kk
     (by rw [hh3]; exact get_set_ne (get_app f6 _) (by omega)) (by rw [hh3]; exact get_set_ne (get_app f8 _) (by omega)) (by rw [hh3]; exact get_set_ne f9' (by omega)) (by rw [hh3]; exact get_set_eq fa')
     (by simpa using rl) (fun c hc => by rcases List.mem_or_eq_of_mem_set hc with hc | rfl; exact rc _ hc; rfl)
     (by
      have e2 : (rows.set d [.int .i64 ca, .int .i64 cb, kv]).drop d = [.int .i64 ca, .int .i64 cb, kv] :: rows.drop (d + 1) := by
       rw [List.drop_eq_getElem_cons (by simpa using hrd), List.drop_set_of_lt (by omega)]
       simp
      rw [e2, hh3]
      refine ⟨_, _, rfl, (rep.keep (by omega) (Keep.app _ _)).setB (by omega) _, ((rr.keep (Nat.le_refl _) kc).keep (Nat.le_refl _) (Keep.app _ _)).setB (by omega) _⟩)
     (by rw [hh3]; exact hy.set (hy.app hI2 _) fa' _)
    have step : loopN (evalCode (lim G0.cfg) (r.right.length + 1) B_tree_maker_kids_0) (m + 1) ⟨(J::J::.fn (.func F) first caps::J::J::J::.ptr b0 0 0 0::J::.ptr (b0 + 1) 0 0 0 :: .ptr (b0 + 2) 0 0 0 :: .int .i64 (d : Int)::J::J::J::J::J::J::J::J::J::J::J::J::J::J::J::J::J::J::J::J::J::J::J::J::J::J::J::J::J::J::J::J::J::J::J::J::J::J::J::J::J::J::J::J::J::J::J::J::J::J::J::J::[]), h1⟩ = loopN (evalCode (lim G0.cfg) (r.right.length + 1) B_tree_maker_kids_0) m ⟨(J::J::.fn (.func F) first caps::J::J::J::.ptr b0 0 0 0::J::.ptr (b0 + 1) 0 0 0 :: .ptr (b0 + 2) 0 0 0 :: .int .i64 ((d : Int) - 1)::J::J::J::J::J::J::J::J::J::J::J::J::J::J::J::J::J::J::J::J::J::J::J::J::J::J::J::J::J::J::J::J::J::J::J::J::J::J::J::J::J::J::J::J::J::J::J::J::J::J::J::J::[]), h3⟩ := by
     rw [hh3]
     rw [ho8] at e8
     rw [ho9] at f9'
     have hix : aindexAddr (h2 ++ [AObj.arr 0 3 true [[.int .i64 ca, .int .i64 cb, kv]]]) 3 (.hsl (b0 + 3) 0 0 r.right.length none) (.int .i64 d) = some (.ptr (b0 + 3) 0 d 0) := ix_hsl fa' (by omega)
     have hrow : rows[d]? = some rows[d] := List.getElem?_eq_getElem hrd
     have hdr : rows[d].drop 3 = [] := List.drop_eq_nil_iff.2 (by omega)
     rcases hkv with rfl | ⟨i, j, rfl⟩ <;> simp only [loop_e,EB_tree_maker_kids_0,Zaa,Zab,Zac,Zad,Zae,Zag,Zaj,Zak,Zan,Zar,Zas,Zau,Zay,Zaz,Zba,Zbi,Zbk,Zbm,Zbo,Zbp,Zbq,Zby,Zcb,Zcf,Zcp,Zcq,Zcv,Zcw,Zcx,Zcy,Zcz,Zda,Zdb,Zdc,Zdd,Q0,Q4,Q1,Q2,Z3,Zdf,Zdk,Zdm,Zdx,Zdz,Zea,Zeb,Zem,decide_true,Bool.not_true,Q7,Q8,Q3,Q5,if_true,Nat.reduceAdd,Nat.reduceLeDiff,Int.reduceNeg,eq_self,and_self,aload,acells,getArr,part,eI,astore,putCells,get_new,set_new,Z5,Z9,cellOk,Z6,Z4,Z0,Z1,Z2,Z7,Q6,Q0,hge,e8,xi,hc,q,f9',hix,fa',hrow,hcd,hdr,hw,List.append_nil]
    rw [step]
    exact ⟨h4, k4, s1, s2⟩
 have hbl : ∀ l : AHeap, (h ++ l)[b]? = some (.arr 0 9 true [eMk g mv lf sz yv]) := fun l => get_app hb l
 have hrl := (List.getElem?_eq_some_iff.1 hr).1
 have hrg : g.rules[kn] = r := (List.getElem?_eq_some_iff.1 hr).2
 have hir := fun h => ix_map eRule h 5 false g.rules .i64 kn hrl rfl
 simp only [hrg] at hir
 have hw1 : IntKind.i64.wrap (-1 - r.left) = -1 - r.left := w64 (by omega) (by omega)
 have hw2 : IntKind.i64.wrap ((r.right.length : Int) - 1) = (r.right.length : Int) - 1 := w64 (by omega) (by omega)
 unfold kidsOf
 simp only [hr]
 by_cases h0 : r.right = []
 case pos =>
  have e0 : ∀ (n : Nat) (h1 : AHeap), loopN (evalCode (lim G0.cfg) n B_tree_maker_kids_0) 1 ⟨(J::J::.fn (.func F) first caps::J::J::J::.ptr h.length 0 0 0::J::.ptr (h.length + 1) 0 0 0 :: .ptr (h.length + 2) 0 0 0 :: .int .i64 (-1)::J::J::J::J::J::J::J::J::J::J::J::J::J::J::J::J::J::J::J::J::J::J::J::J::J::J::J::J::J::J::J::J::J::J::J::J::J::J::J::J::J::J::J::J::J::J::J::J::J::J::J::J::[]), h1⟩ = some (.exit 0, ⟨(J::J::J::J::J::J::.ptr h.length 0 0 0::J::J::.ptr (h.length + 2) 0 0 0::J::J::J::J::J::J::J::J::J::J::J::J::J::J::J::J::J::J::J::J::J::J::J::J::J::J::J::J::J::J::J::J::J::J::J::J::J::J::J::J::J::J::J::J::J::J::J::J::J::J::J::J::J::[]), h1⟩) := by
   intro n h1
   simp only [loop_e,EB_tree_maker_kids_0,Zab,Zac,Zad,Zag,Zah,Zaj,Zak,Zal,Zas,Zav,Zay,Zbi,Zbk,Zbq,Zcv,Zcw,Zcx,Zdb,Zdc,Zdd,Q0,Q4,Q1,Q2,Zdk,decide_false,Int.reduceNeg,Int.reduceLE,eq_self]
  rw [h0] at hI
  have hwm : IntKind.i64.wrap (0 - 1) = -1 := w64 (by omega) (by omega)
  refine ⟨[.int .i64 (-1 - r.left), .int .i64 kn, .nilS], h ++ [.arr 0 3 true [[.int .i64 (-1 - r.left), .int .i64 kn, .nilS]], .arr 0 5 true [[.int .i64 r.left, .vsl false (eIs []), .vsl false (eSs r.fields), .str r.label, .int .i64 r.level]], .arr 0 3 true [[.int .i64 (-1 - r.left), .int .i64 kn, .nilS]]], lim_func rfl P_tree_maker_kids 1 ?_, ⟨_, _, _, rfl, .inl rfl⟩, Keep.app _ _, fun _ => ?_, fun q => absurd (by rw [h0]; rfl) q⟩
  ·rw [R_tree_maker_kids]
   simp only [Zaa,Zab,Zac,Zad,Zae,Zaf,Zag,Zai,Zaj,Zak,Zap,Zas,Zat,Zay,Zba,Zbi,Zbk,Zbm,Zbo,Zbp,Zbq,Zby,Zbz,Zcb,Zcg,Zcm,Zcu,Zcv,Zcw,Zcx,Zcy,Zdb,Zdc,Zdd,Q0,Q4,Q1,Q2,Z3,Z8,Zdf,Zdj,Zdt,Zdx,Zdz,Zea,Zeb,Zec,Zep,decide_false,Q7,Q8,Q3,Q5,if_true,if_false,Nat.reduceAdd,Nat.reduceSub,Nat.reduceLeDiff,Int.reduceNeg,Int.reduceLT,eq_self,and_self,not_true_eq_false,Q3,Q5,Y0,Y1,Q9,Q6,aload,acells,getArr,part,astore,putCells,Z5,Z9,cellOk,Z6,Z4,Z0,Z1,Z2,Z7,Q9,Q6,Q0,hbl,hir,hw1,hap_get0,hap_get,hap_set0,hap_set,List.append_assoc,List.length_append,e0,resAll,resVals,resVal,h0,List.reverse_nil,kidsGo,z0,hwm,ne_eq,an_p,afill,evp,fillCells,Nat.reduceLT]
  ·rw [h0]
   exact ⟨⟨.nilS, rfl, .inl ⟨rfl, rfl⟩⟩, hy.app hI _⟩
 case neg =>
  have hpos : (0 : Int) < r.right.length := by
   have : r.right.length ≠ 0 := fun e => h0 (List.length_eq_zero_iff.1 e)
   omega
  have hmk := fun (h : AHeap) (sz bytes : Nat) (z : List AV) (hb : bytes ≤ 1000000) => amk_n (h := h) (k := .i64) (k' := .i64) hn sz bytes z hb
  subst hb0
  obtain ⟨h2, kk, s1, s2⟩ := loop r.right.length (r.right.length + 1) x [] (List.replicate r.right.length [.int .i64 0, .int .i64 0, .nilS]) (h ++ [o6, o8, o9, .arr 0 3 true (List.replicate r.right.length [.int .i64 0, .int .i64 0, .nilS])]) (Nat.le_refl _) (by omega) (by simp) (Keep.app _ _)
   (by rw [hap_get0]; rfl) (by rw [hap_get]; rfl) (by rw [hap_get]; rfl) (by rw [hap_get]; rfl) (by simp) (fun c hc => by rw [(List.mem_replicate.1 hc).2]; rfl) (by rw [List.drop_of_length_le (by simp)]; exact rfl) (hy.app hI _)
  rw [List.take_length] at s1 s2
  by_cases q : (kidsGo f r.right.reverse [] x).1.2 = 0
  case pos =>
   obtain ⟨e, e6, e9, rows, ea, rep, inv⟩ := s1 q
   have ol := rep.len
   rw [if_neg (fun e => e q)]
   refine ⟨[.int .i64 (-1 - r.left), .int .i64 kn, .hsl (h.length + 3) 0 0 r.right.length none], h2.set h.length (.arr 0 3 true [[.int .i64 (-1 - r.left), .int .i64 kn, .hsl (h.length + 3) 0 0 r.right.length none]]), lim_func rfl P_tree_maker_kids (r.right.length + 1) ?_, ⟨_, _, _, rfl, .inr ⟨_, _, rfl⟩⟩, kk.setN (Nat.le_refl _) _, fun _ => ⟨?_, hy.set inv (ho6 ▸ e6) _⟩, fun q => absurd rfl q⟩
   ·have g6 := get_set_eq (y := AObj.arr 0 3 true [[.int .i64 (-1 - r.left), .int .i64 kn, .hsl (h.length + 3) 0 0 r.right.length none]]) e6
    rw [ho6] at e6
    rw [ho9] at e9
    rw [ho6, ho8, ho9] at e
    rw [R_tree_maker_kids]
    simp only [Zab,Zac,Zad,Zae,Zaf,Zag,Zai,Zaj,Zak,Zap,Zar,Zat,Zay,Zaz,Zba,Zbi,Zbk,Zbm,Zbo,Zbp,Zbq,Zbv,Zby,Zbz,Zcb,Zcg,Zcm,Zcu,Zcv,Zcw,Zcx,Zcy,Zdb,Zdc,Zdd,Q0,Q4,Q1,Q2,Z3,Z8,Zdf,Zdj,Zdt,Zdx,Zdz,Zea,Zeb,Zec,Zeg,Zep,decide_true,Q7,Q8,Q3,Q5,if_true,Nat.reduceAdd,Nat.reduceSub,Nat.reduceLeDiff,Int.reduceNeg,eq_self,and_self,Q3,Q5,Y0,Y1,Q9,Q6,aload,acells,getArr,part,astore,putCells,Z5,Z9,cellOk,Z6,Z4,Z0,Z1,Z2,Z7,Q9,Q6,Q0,hbl,hir,hw1,hw2,hpos,hmk,hap_get,hap_set,List.append_assoc,List.length_append,e,e6,e9,g6,resAll,resVals,resVal,an_p,afill,evp,fillCells,Nat.reduceLT]
   ·have el : (kidsGo f r.right.reverse [] x).1.1.length = r.right.length := by
     rw [kidsGo_len f _ _ _ q]; simp
    refine ⟨_, rfl, .inr ⟨h.length + 3, rows, by omega, by rw [el], get_set_ne ea (by omega), rep.setB (by omega) _⟩⟩
  case neg =>
   obtain ⟨e, e6⟩ := s2 q
   rw [if_pos q]
   refine ⟨[.int .i64 0, .int .i64 0, .nilS], h2, lim_func rfl P_tree_maker_kids (r.right.length + 1) ?_, cel0, kk, fun e => absurd e q, fun _ => rfl⟩
   rw [ho6] at e6
   rw [ho6, ho8, ho9] at e
   rw [R_tree_maker_kids]
   simp only [Zab,Zac,Zad,Zae,Zaf,Zag,Zaj,Zak,Zam,Zao,Zar,Zat,Zay,Zaz,Zba,Zbi,Zbk,Zbm,Zbo,Zbp,Zbq,Zbv,Zby,Zbz,Zcb,Zcg,Zcm,Zcu,Zcv,Zcw,Zcx,Zcy,Zdb,Zdc,Zdd,Q0,Q4,Q1,Q2,Z3,Z8,Zdf,Zdj,Zdt,Zdx,Zdz,Zea,Zeb,Zec,Zeg,Zep,decide_true,Q7,Q8,Q3,Q5,if_true,Nat.reduceAdd,Nat.reduceSub,Nat.reduceLeDiff,Int.reduceNeg,eq_self,and_self,Q3,Q5,Y0,Y1,Q9,Q6,aload,acells,getArr,part,astore,putCells,Z5,Z9,cellOk,Z6,Z4,Z0,Z1,Z2,Z7,Q9,Q6,Q0,hbl,hir,hw1,hw2,hpos,hmk,hap_get,hap_set,List.append_assoc,List.length_append,e,e6,resAll,resVals,resVal,an_p,afill,evp,fillCells,Nat.reduceLT]
end Go.Proofs.Ytkimloceaihplaa.Ai
namespace Go.Proofs.Ytkimloceaihplaa.Ai
open Go Go.Proofs
open List renaming cons_append → Q0, nil_append → Q1, set_cons_zero → Q2, length_cons → Q3, length_nil → Q4, getElem?_cons_zero → Q5, getElem?_cons_succ → Q6, getD_cons_zero → Q7, getD_cons_succ → Q8, replicate_succ → Q9, replicate_zero → Z0, drop_succ_cons → Z1, take_succ_cons → Z2
set_option linter.unusedVariables false
set_option linter.unusedSimpArgs false
set_option maxRecDepth 10000
set_option maxHeartbeats 4000000
theorem findIdx_mem {α : Type} {p q : α → Bool} : ∀ (l : List α), (∀ x ∈ l, p x = q x) → l.findIdx p = l.findIdx q := by
 intro l
 induction l with
 | nil => intro _; rfl
 | cons a l ih =>
  intro h
  rw [List.findIdx_cons, List.findIdx_cons, h a (by simp), ih (fun x hx => h x (by simp [hx]))]
section
variable {g : GramD} {L : List (Int × Int)} {y h : List Int} {w : AV}
theorem pick_isR (hg : GramR g) (F : Fix3 g.rules g.nonterms.length L y h) {s : Int} (hA : nx s < g.nonterms.length) (h0 : 0 ≤ y.getD (nx s) (-1)) (h1 : y.getD (nx s) (-1) < most) (hs : s < 0) : g.rules.findIdx (isR L s) = pickD g.rules y h (nx s) := by
 unfold pickD
 refine findIdx_mem _ (fun r hr => ?_)
 have e1 : (-1 - s = r.left) ↔ (r.left = ((nx s : Nat) : Int)) := by unfold nx; omega
 unfold isR
 by_cases hl : r.left = ((nx s : Nat) : Int)
 ·have sp := same_pick hg.vr F hA h0 h1 hr hl
  have d1 : decide (r.left = ((nx s : Nat) : Int)) = true := decide_eq_true hl
  have d2 : decide (-1 - s = r.left) = true := decide_eq_true (e1.2 hl)
  rw [d1, Bool.true_and]
  cases hc : ruleGo L r.right (0, 1) with
  | none =>
   rw [hc] at sp
   have : ¬ heightD y h r = h.getD (nx s) 0 := fun e => by have := sp.2 e; cases this
   exact (decide_eq_false this).symm
  | some c =>
   rw [hc] at sp
   simp only [d2,Bool.true_and,Option.some.injEq] at sp ⊢
   by_cases q : c = L.getD (nx s) (-1, 0)
   ·rw [decide_eq_true q, decide_eq_true (sp.1 q)]
   ·rw [decide_eq_false q, decide_eq_false (fun e => q (sp.2 e))]
 ·have d1 : decide (r.left = ((nx s : Nat) : Int)) = false := decide_eq_false hl
  have d2 : decide (-1 - s = r.left) = false := decide_eq_false (fun e => hl (e1.1 e))
  rw [d1, Bool.false_and]
  cases hc : ruleGo L r.right (0, 1) with
  | none => rfl
  | some c => simp only [d2,Bool.false_and]
structure SInv (g : GramD) (w : AV) (ig il im ik b : Nat) (p : Nat) (x : Nat) (H : AHeap) : Prop where
 gram : H[ig]? = some (.arr 0 5 true [eGram g])
 list : H[il]? = some (.arr 0 1 true [[w]])
 mak : H[im]? = some (.arr 0 1 true [[.ptr b 0 0 0]])
 node : H[ik]? = some (.arr 0 1 true [[.fn (.func 53) [] [.ptr im 0 0 0, .ptr ig 0 0 0, .ptr il 0 0 0, .ptr ik 0 0 0]]])
 mkr : H[b]? = some (.arr 0 9 true [eMk g .nilS (.int .i64 0) (.int .i64 x) .nilS])
 le : x ≤ 65536
variable {ig il im ik b : Nat}
theorem SInv.keep {p p' x : Nat} {H H' : AHeap} (hI : SInv g w ig il im ik b p x H) (k : ∀ (j : Nat) (o : AObj), H[j]? = some o → (∀ c, o ≠ .arr 0 3 true c) → H'[j]? = some o) : SInv g w ig il im ik b p' x H' :=
 ⟨k _ _ hI.gram (fun c e => by cases e), k _ _ hI.list (fun c e => by cases e), k _ _ hI.mak (fun c e => by cases e), k _ _ hI.node (fun c e => by cases e), k _ _ hI.mkr (fun c e => by cases e), hI.le⟩
theorem SInv.app {p p' x : Nat} {H : AHeap} (hI : SInv g w ig il im ik b p x H) (l : AHeap) : SInv g w ig il im ik b p' x (H ++ l) := hI.keep fun j o e _ => get_app e l
theorem SInv.set {p p' x : Nat} {H : AHeap} (hI : SInv g w ig il im ik b p x H) {j : Nat} {c} (hj : H[j]? = some (.arr 0 3 true c)) (o' : AObj) : SInv g w ig il im ik b p' x (H.set j o') := hI.keep fun i o e n => get_set_ne e (fun q => by subst q; rw [hj] at e; cases e; exact n _ rfl)
def Qs (g : GramD) (y h : List Int) (j : Nat) (s : Int) : Prop := Sm g.nonterms.length y s ∧ rkS h s ≤ j ∧ inI64 s
theorem sizS_rev (f : Nat) (l : List Int) : sizS g.rules y h f l.reverse = sizS g.rules y h f l := by
 unfold sizS
 rw [List.map_reverse, sizeNs_rev]
theorem f_Short_1 (hg : GramR g) (F : Fix3 g.rules g.nonterms.length L y h) (hl : LiP L w) (ok : COk g.nonterms.length L) (f : Nat) : ∀ (j : Nat), j ≤ f → KOneQ (Qs g y h j) 53 [] [.ptr im 0 0 0, .ptr ig 0 0 0, .ptr il 0 0 0, .ptr ik 0 0 0] (SInv g w ig il im ik b) (shF g.rules y h f) := by
 have hgl := hg.ok.rules
 rw [maxLen_eq] at hgl
 have nt := hg.good.nt
 have leafR : ∀ (p : Nat) (s : Int) (x : Nat) (H : AHeap), inI64 s → (0 ≤ s ∨ x = 65536) → SInv g w ig il im ik b (p + 1) x H → ∃ c h', lim G0.cfg (.func 53) ([] ++ [.int .i64 s] ++ [.ptr im 0 0 0, .ptr ig 0 0 0, .ptr il 0 0 0, .ptr ik 0 0 0]) H = some (.tup [.agg c, .int .i64 (shF g.rules y h f s x).1.2], h') ∧ Cel c ∧ Keep H h' ∧ ((shF g.rules y h f s x).1.2 = 0 → RepT h' H.length (shF g.rules y h f s x).1.1 c ∧ SInv g w ig il im ik b p (shF g.rules y h f s x).2 h') ∧ ((shF g.rules y h f s x).1.2 ≠ 0 → c = [.int .i64 0, .int .i64 0, .nilS]) := by
  intro p s x H hi hc hI
  have hI0 := hI
  obtain ⟨e1, e2, e3, e4, e5, e6⟩ := hI
  have k3 := fun l : AHeap => get_app e3 l
  have k5 := fun l : AHeap => get_app e5 l
  have lb := get_len e5
  have nb3 : b ≠ im := fun q => by rw [← q, e5] at e3; cases e3
  have g3 := fun (o : AObj) (l : AHeap) => get_app (get_set_ne (y := o) e3 nb3) l
  have sb : ∀ (q : AHeap) (o : AObj), (H ++ q).set b o = H.set b o ++ q := fun q o => by rw [List.set_append_left _ _ lb]
  have hsl : ∀ o : AObj, (H.set b o).length = H.length := fun o => by simp
  have hgb : ∀ (o : AObj) (l : AHeap), (H.set b o ++ l)[b]? = some o := fun o l => get_app (get_set_eq e5) l
  have hg0 : ∀ (o : AObj) (l : AHeap), (H.set b o ++ l)[H.length]? = l[0]? := fun o l => by have := hap_get0 (H.set b o) l; rwa [hsl] at this
  have hgk : ∀ (o : AObj) (l : AHeap) (j : Nat), (H.set b o ++ l)[H.length + j]? = l[j]? := fun o l j => by have := hap_get (H.set b o) l j; rwa [hsl] at this
  have hsk : ∀ (o o' : AObj) (l : AHeap) (j : Nat), (H.set b o ++ l).set (H.length + j) o' = H.set b o ++ l.set j o' := fun o o' l j => by have := hap_set (H.set b o) l j o'; rwa [hsl] at this
  have w1 : IntKind.i64.wrap ((x : Int) + 1) = ((x + 1 : Nat) : Int) := (w64 (by omega) (by omega)).trans (by omega)
  have hkeep : ∀ (o : AObj) (l : AHeap), Keep H (H.set b o ++ l) := fun o l => ((Keep.refl H).setS e5 (.inr ⟨_, rfl⟩) o).trans (Keep.app _ _)
  have inv : ∀ (x' : Nat) (l : AHeap), x' ≤ 65536 → SInv g w ig il im ik b p x' (H.set b (.arr 0 9 true [eMk g .nilS (.int .i64 0) (.int .i64 x') .nilS]) ++ l) := fun x' l hx => by
   refine SInv.app (p := p) ⟨get_set_ne e1 ?_, get_set_ne e2 ?_, get_set_ne e3 nb3, get_set_ne e4 ?_, get_set_eq e5, hx⟩ l
   ·exact fun q => by rw [← q, e5] at e1; cases e1
   ·exact fun q => by rw [← q, e5] at e2; cases e2
   ·exact fun q => by rw [← q, e5] at e4; cases e4
  by_cases full : x = 65536
  ·have ef : shF g.rules y h f s x = ((zeroT, 4), x) := by
    unfold shF
    have : 1 ≤ sizeN (shT g.rules y h f s) := by
     cases shT g.rules y h f s
     rw [sizeN]; omega
    rw [if_neg (by omega)]
   rw [ef]
   have c1 : (65536 : Int) < ((x + 1 : Nat) : Int) := by omega
   refine ⟨[.int .i64 0, .int .i64 0, .nilS], H.set b (.arr 0 9 true [eMk g .nilS (.int .i64 0) (.int .i64 (x + 1 : Nat)) .nilS]) ++ [.arr 0 1 true [[.int .i64 s]], .arr 0 3 true [[.int .i64 0, .int .i64 0, .nilS]]], lim_func rfl P_tree_Short_1 1 ?_, cel0, hkeep _ _, fun q => absurd q (fun e : (4 : Int) = 0 => by cases e), fun _ => rfl⟩
   rw [R_tree_Short_1]
   simp only [Q1,Q0,Zab,Zac,Zad,Zai,Zaj,Zak,Zam,Zar,Zay,Zaz,Zba,Zbi,Zbk,Zbm,Zbn,Zbo,Zbp,Zbq,Zby,Zbz,Zcm,Zcs,Zcu,Zcv,Zcw,Zcx,Zcy,Q2,List.set_cons_succ,Q7,Q8,Option.bind_some,Option.map_some,Zde,Zdj,Zdx,Zdz,Zea,Zeb,Zec,decide_true,Q5,Q6,Q3,Q4,if_true,Nat.reduceAdd,Nat.reduceSub,Nat.reduceLeDiff,Int.reduceNeg,eq_self,and_self,Q3,Q4,Q9,Z0,Q0,Q1,aload,acells,getArr,part,astore,putCells,List.all_cons,List.all_nil,cellOk,Bool.and_self,List.drop_zero,Z1,Z2,List.take_zero,List.take_nil,Q0,Q1,Q2,k3,k5,g3,w1,sb,hgb,hgk,hsk,c1,List.append_assoc,List.length_append,an_p,afill,evp,fillCells,resAll,resVals,resVal]
  ·have p0 : 0 ≤ s := by
    rcases hc with hc | hc
    ·exact hc
    ·exact absurd hc full
   have ef : shF g.rules y h f s x = ((leafT s, 0), x + 1) := by
    unfold shF
    rw [shT_leaf f p0]
    have : sizeN (leafT s) = 1 := by simp [leafT, sizeN, sizeNs]
    rw [this, if_pos (by omega)]
   rw [ef]
   have c1 : ¬ (65536 : Int) < ((x + 1 : Nat) : Int) := by omega
   refine ⟨[.int .i64 s, .int .i64 (-1), .nilS], H.set b (.arr 0 9 true [eMk g .nilS (.int .i64 0) (.int .i64 (x + 1 : Nat)) .nilS]) ++ [.arr 0 1 true [[.int .i64 s]], .arr 0 3 true [[.int .i64 s, .int .i64 (-1), .nilS]]], lim_func rfl P_tree_Short_1 1 ?_, ⟨_, _, _, rfl, .inl rfl⟩, hkeep _ _, fun _ => ⟨⟨_, rfl, .inl ⟨rfl, rfl⟩⟩, inv _ _ (by omega)⟩, fun q => absurd rfl q⟩
   rw [R_tree_Short_1]
   simp only [Q1,Q0,Zaa,Zab,Zac,Zad,Zai,Zaj,Zak,Zam,Zar,Zas,Zay,Zaz,Zba,Zbi,Zbk,Zbm,Zbn,Zbo,Zbp,Zbq,Zby,Zbz,Zcm,Zcs,Zcu,Zcv,Zcw,Zcx,Zcy,Q2,List.set_cons_succ,Q7,Q8,Option.bind_some,Option.map_some,Zde,Zdj,Zdk,Zdx,Zdz,Zea,Zeb,Zec,decide_true,decide_false,Q5,Q6,Q3,Q4,if_true,Nat.reduceAdd,Nat.reduceSub,Nat.reduceLeDiff,Int.reduceNeg,eq_self,and_self,Q3,Q4,Q9,Z0,Q0,Q1,aload,acells,getArr,part,astore,putCells,List.all_cons,List.all_nil,cellOk,Bool.and_self,List.drop_zero,Z1,Z2,List.take_zero,List.take_nil,Q0,Q1,Q2,k3,k5,g3,w1,sb,hgb,hg0,hgk,hsk,c1,p0,List.append_assoc,List.length_append,an_p,afill,evp,fillCells,Nat.reduceLT,resAll,resVals,resVal]
 intro j
 induction j with
 | zero =>
  intro _
  refine ⟨fun hI l => hI.app l, fun hI _ _ hj c' => hI.set hj _, fun p s x H hs hI => leafR p s x H hs.2.2 (.inl ?_) hI⟩
  obtain ⟨hs, hr, hi⟩ := hs
  apply Classical.byContradiction
  intro p
  rcases hs with hs | ⟨h1, h2, h3⟩
  ·exact p hs
  ·have := F.kn _ h1 h2 h3
   unfold rkS at hr
   rw [if_neg p] at hr
   omega
 | succ j ih =>
  intro hjf
  refine ⟨fun hI l => hI.app l, fun hI _ _ hj c' => hI.set hj _, fun p s x H hs hI => ?_⟩
  obtain ⟨hS, hr, hi⟩ := hs
  by_cases lf : 0 ≤ s ∨ x = 65536
  ·exact leafR p s x H hi lf hI
  have p0 : ¬ 0 ≤ s := fun q => lf (.inl q)
  have full : x ≠ 65536 := fun q => lf (.inr q)
  obtain ⟨r, r1, r2, r3, r4, r5, r6⟩ := shT_in hg.vr F hS (by omega : rkS h s ≤ f) p0
  have hA : nx s < g.nonterms.length ∧ 0 ≤ y.getD (nx s) (-1) ∧ y.getD (nx s) (-1) < most := by
   rcases hS with hS | hS
   ·exact absurd hS p0
   ·exact hS
  have pk := pick_isR (L := L) hg F hA.1 hA.2.1 hA.2.2 (by omega)
  obtain ⟨k, hk⟩ : ∃ k, k = pickD g.rules y h (nx s) := ⟨_, rfl⟩
  rw [← hk] at r1 r6 pk
  have kl := (List.getElem?_eq_some_iff.1 r1).1
  obtain ⟨s1, s2⟩ := hg.sym r2
  obtain ⟨v1, v2, v3⟩ := hg.vr r r2
  have hI0 := hI
  obtain ⟨e1, e2, e3, e4, e5, e6⟩ := hI
  have lb := get_len e5
  have nb1 : b ≠ ig := fun q => by rw [← q, e5] at e1; cases e1
  have nb2 : b ≠ il := fun q => by rw [← q, e5] at e2; cases e2
  have nb3 : b ≠ im := fun q => by rw [← q, e5] at e3; cases e3
  have nb4 : b ≠ ik := fun q => by rw [← q, e5] at e4; cases e4
  have k3 := fun l : AHeap => get_app e3 l
  have k5 := fun l : AHeap => get_app e5 l
  have g1 := fun (o : AObj) (l : AHeap) => get_app (get_set_ne (y := o) e1 nb1) l
  have g2 := fun (o : AObj) (l : AHeap) => get_app (get_set_ne (y := o) e2 nb2) l
  have g3 := fun (o : AObj) (l : AHeap) => get_app (get_set_ne (y := o) e3 nb3) l
  have g4 := fun (o : AObj) (l : AHeap) => get_app (get_set_ne (y := o) e4 nb4) l
  have sb : ∀ (q : AHeap) (o : AObj), (H ++ q).set b o = H.set b o ++ q := fun q o => by rw [List.set_append_left _ _ lb]
  have hsl : ∀ o : AObj, (H.set b o).length = H.length := fun o => by simp
  have hgb : ∀ (o : AObj) (l : AHeap), (H.set b o ++ l)[b]? = some o := fun o l => get_app (get_set_eq e5) l
  have hg0 : ∀ (o : AObj) (l : AHeap), (H.set b o ++ l)[H.length]? = l[0]? := fun o l => by have := hap_get0 (H.set b o) l; rwa [hsl] at this
  have hgk : ∀ (o : AObj) (l : AHeap) (j : Nat), (H.set b o ++ l)[H.length + j]? = l[j]? := fun o l j => by have := hap_get (H.set b o) l j; rwa [hsl] at this
  have w1 : IntKind.i64.wrap ((x : Int) + 1) = ((x + 1 : Nat) : Int) := (w64 (by omega) (by omega)).trans (by omega)
  have hkeep : ∀ (o : AObj) (l : AHeap), Keep H (H.set b o ++ l) := fun o l => ((Keep.refl H).setS e5 (.inr ⟨_, rfl⟩) o).trans (Keep.app _ _)
  have c1 : ¬ (65536 : Int) < ((x + 1 : Nat) : Int) := by omega
  obtain ⟨H1, hH1⟩ : ∃ H1, H1 = H.set b (.arr 0 9 true [eMk g .nilS (.int .i64 0) (.int .i64 (x + 1 : Nat)) .nilS]) ++ [.arr 0 1 true [[.int .i64 s]], .arr 0 3 true [[.int .i64 0, .int .i64 0, .nilS]]] := ⟨_, rfl⟩
  have inv1 : ∀ q : Nat, SInv g w ig il im ik b q (x + 1) H1 := fun q => by
   rw [hH1]
   exact SInv.app (p := q) ⟨get_set_ne e1 nb1, get_set_ne e2 nb2, get_set_ne e3 nb3, get_set_ne e4 nb4, get_set_eq e5, by omega⟩ _
  have es : H1[H.length]? = some (.arr 0 1 true [[.int .i64 s]]) := by rw [hH1, hg0]; rfl
  have ez : H1[H.length + 1]? = some (.arr 0 3 true [[.int .i64 0, .int .i64 0, .nilS]]) := by rw [hH1, hgk]; rfl
  have len1 : H1.length = H.length + 2 := by rw [hH1]; simp
  have ix := f_IndexS hg hl ok hi (by omega) (inv1 0).list es
  rw [pk, if_neg (by omega)] at ix
  have kb : ∀ x' ∈ r.right, Qs g y h j x' := fun x' hx => by
   obtain ⟨t1, t2, t3⟩ := r5 x' hx
   obtain ⟨t4, t5⟩ := s2 x' hx
   exact ⟨t1, by omega, by omega, by omega⟩
  obtain ⟨c, h', call, cel, kp, ok', okz⟩ := f_kidsQ (ih (by omega)) g b .nilS (.int .i64 0) (.int .i64 (x + 1 : Nat)) .nilS k r r1 (by omega) (by omega) kb ⟨by omega, by omega⟩ p (x + 1) H1 (inv1 _) (inv1 0).mkr
  have ezk := kp _ _ ez soft3
  have ezk' := get_set_eq (y := AObj.arr 0 3 true [c]) ezk
  obtain ⟨ks1, ks2⟩ := kidsGo_sh (rs := g.rules) (y := y) (h := h) f r.right.reverse [] (x + 1) (by omega)
  rw [sizS_rev] at ks1 ks2
  have esz : sizeN (shT g.rules y h f s) = 1 + sizS g.rules y h f r.right := by rw [r6, sizeN]; rfl
  have eleft : (-1 - r.left) = s := by rw [r3]; unfold nx; omega
  have result : (kidsOf g (shF g.rules y h f) k (x + 1)).1.2 = (shF g.rules y h f s x).1.2 ∧ ((shF g.rules y h f s x).1.2 = 0 → (kidsOf g (shF g.rules y h f) k (x + 1)).1.1 = (shF g.rules y h f s x).1.1 ∧ (kidsOf g (shF g.rules y h f) k (x + 1)).2 = (shF g.rules y h f s x).2) := by
   unfold kidsOf
   simp only [r1]
   by_cases fit : x + 1 + sizS g.rules y h f r.right ≤ 65536
   ·have e := ks1 fit
    have ef : shF g.rules y h f s x = ((shT g.rules y h f s, 0), x + sizeN (shT g.rules y h f s)) := by unfold shF; rw [if_pos (by omega)]
    rw [e, ef, if_neg (by simp)]
    refine ⟨rfl, fun _ => ⟨?_, ?_⟩⟩
    ·rw [r6, eleft, List.append_nil, List.map_reverse, List.reverse_reverse]
    ·simp only; omega
   ·have e := ks2 fit
    have ef : shF g.rules y h f s x = ((zeroT, 4), x) := by unfold shF; rw [if_neg (by omega)]
    rw [ef, if_pos (by rw [e]; decide)]
    exact ⟨e, fun q => absurd q (fun e : (4 : Int) = 0 => by cases e)⟩
  rw [result.1] at call ok' okz
  refine ⟨c, h'.set (H.length + 1) (.arr 0 3 true [c]), lim_func rfl P_tree_Short_1 1 ?_, cel, (Keep.trans (hH1 ▸ hkeep _ _) kp).setN (by omega) _, fun q => ?_, okz⟩
  ·rw [hH1] at call ix
   obtain ⟨ca, cb, kv, rfl, hkv⟩ := cel
   rw [R_tree_Short_1]
   rcases hkv with rfl | ⟨i, jj, rfl⟩ <;> simp only [Q1,Q0,Zaa,Zab,Zac,Zad,Zai,Zaj,Zak,Zas,Zay,Zaz,Zba,Zbi,Zbk,Zbm,Zbn,Zbo,Zbp,Zbq,Zbt,Zby,Zbz,Zcf,Zcp,Zcq,Zcs,Zcu,Zcv,Zcw,Zcx,Zcy,Zcz,Zda,Q2,List.set_cons_succ,Q7,Q8,Option.bind_some,Option.map_some,Zde,Zdj,Zdk,Zdx,Zdz,Zea,Zeb,Zec,Zem,decide_false,Q5,Q6,Q3,Q4,if_true,Nat.reduceAdd,Nat.reduceSub,Nat.reduceLeDiff,Int.reduceNeg,eq_self,and_self,Q3,Q4,Q9,Z0,Q0,Q1,aload,acells,getArr,part,astore,putCells,List.all_cons,List.all_nil,cellOk,Bool.and_self,List.drop_zero,Z1,Z2,List.take_zero,List.take_nil,Q0,Q1,Q2,k3,k5,g1,g3,g4,w1,sb,hgb,hg0,c1,p0,ix,call,ezk,ezk',List.append_assoc,List.length_append,an_p,resAll,resVals,resVal]
  ·obtain ⟨q1, q2⟩ := ok' q
   obtain ⟨q3, q4⟩ := result.2 q
   rw [q3] at q1
   rw [q4] at q2
   exact ⟨(q1.setB (by omega) _).mono _ (by omega) fun _ _ _ e => e, q2.set ezk _⟩
end
end Go.Proofs.Ytkimloceaihplaa.Ai
namespace Go.Proofs.Ytkimloceaihplaa.Ai
open Go Go.Proofs
open List renaming cons_append → Q0, nil_append → Q1, set_cons_zero → Q2, length_cons → Q3, length_nil → Q4
set_option linter.unusedVariables false
set_option linter.unusedSimpArgs false
set_option maxRecDepth 10000
set_option maxHeartbeats 4000000
section
variable {g : GramD} {L : List (Int × Int)} {y h : List Int} {w : AV}
theorem LiP.form (hl : LiP L w) : w = .nilS ∨ ∃ e rows, w = .vsl e rows := by
 rcases hl with ⟨_, h⟩ | ⟨e, h⟩
 ·exact .inl h
 ·exact .inr ⟨e, _, h⟩
theorem f_Short_ok (hg : GramR g) (h0 : gramErr g = 0) (F : Fix3 g.rules g.nonterms.length L y h) (hok : HOk g.nonterms.length h) (hl : LiP L w) (ok : COk g.nonterms.length L) (mc : ∀ H, lim G0.cfg (.func 52) [.agg (eGram g)] H = some (w, H)) {s : Int} (hi : inI64 s) (hs : isSym g s = true) (hS : Sm g.nonterms.length y s) (h4 : s < 0 → y.getD (nx s) (-1) < 65536) (f : Nat) (hf : g.nonterms.length + 1 ≤ f) :
  (sizeN (shT g.rules y h f s) ≤ 65536 → ∃ c, Enc (shT g.rules y h f s) c ∧ ∀ H, lim G0.cfg (.func 28) [.agg (eGram g), .int .i64 s] H = some (.tup [.agg c, .int .i64 0], H)) ∧
  (¬ sizeN (shT g.rules y h f s) ≤ 65536 → ∀ H, lim G0.cfg (.func 28) [.agg (eGram g), .int .i64 s] H = some (.tup [.agg [.int .i64 0, .int .i64 0, .nilS], .int .i64 4], H)) := by
 have rr := f_Right g hg.ok
 have rs := f_tthere g hg.ok s hi
 rw [h0] at rr
 rw [hs] at rs
 have d0 : decide ((0 : Int) = 0) = true := rfl
 simp only [isSym,Bool.and_eq_true,decide_eq_true_eq] at hs
 have nt := hg.good.nt
 have rl := rkS_le hok s
 have dep := shT_dep hg.vr F f s hS (by omega)
 obtain ⟨c, h', call, cel, kp, okk, okz⟩ := (f_Short_1 (ig := 0) (il := 2) (im := 4) (ik := 5) (b := 3) hg F hl ok f f (Nat.le_refl _)).run 0 s 0 [.arr 0 5 true [eGram g], .arr 0 3 true [[.int .i64 0, .int .i64 0, .nilS]], .arr 0 1 true [[w]], .arr 0 9 true [eMk g .nilS (.int .i64 0) (.int .i64 (0 : Nat)) .nilS], .arr 0 1 true [[.ptr 3 0 0 0]], .arr 0 1 true [[.fn (.func 53) [] [.ptr 4 0 0 0, .ptr 0 0 0 0, .ptr 2 0 0 0, .ptr 5 0 0 0]]]] ⟨hS, by omega, hi⟩ ⟨rfl, rfl, rfl, rfl, rfl, by omega⟩
 have k1 := kp 1 _ rfl soft3
 have k1' := get_set_eq (y := AObj.arr 0 3 true [c]) k1
 rw [z0] at call
 simp only [Q1,Q0] at call
 obtain ⟨E, hE⟩ : ∃ E, E = (shF g.rules y h f s 0).1.2 := ⟨_, rfl⟩
 rw [← hE] at call
 have run : runFn (lim G0.cfg) 1 A_tree_Short [.agg (eGram g), .int .i64 s] [] = some (.tup [.agg c, .int .i64 E], h'.set 1 (.arr 0 3 true [c])) := by
  rw [R_tree_Short]
  by_cases p : s < 0
  ·have hA : nx s < g.nonterms.length := by unfold nx; omega
   have lk : nx s < L.length := by rw [ok.len]; exact hA
   have x1 := fun H => hl.ix H (nx s) lk
   have e1 : ((nx s : Nat) : Int) = -1 - s := by unfold nx; omega
   have y0 : 0 ≤ y.getD (nx s) (-1) := by
    rcases hS with hS | hS
    ·omega
    ·exact hS.2.1
   have y4 := h4 p
   have kn := F.f.eq _ hA y0
   obtain ⟨K, hK⟩ : ∃ K, K = L.getD (nx s) (-1, 0) := ⟨_, rfl⟩
   rw [e1, ← getD_get lk (-1, 0), ← hK] at x1
   rw [← hK] at kn
   obtain ⟨K1, K2⟩ := K
   have fm : most = 1000000 := rfl
   have n1 : ¬ K1 < 0 := by simp only at kn; omega
   have n2 : ¬ (65536 : Int) < K1 := by simp only at kn; omega
   have w1 : IntKind.i64.wrap (-1 - s) = -1 - s := w64 (by omega) (by omega)
   obtain ⟨ca, cb, kv, rfl, hkv⟩ := cel
   rcases hl.form with rfl | ⟨e, rows, rfl⟩ <;> rcases hkv with rfl | ⟨i, jj, rfl⟩ <;> simp only [Zaa,Zab,Zac,Zad,Zae,Zai,Zaj,Zak,Zan,Zas,Zay,Zaz,Zba,Zbb,Zbg,Zbi,Zbj,Zbk,Zbl,Zbm,Zbn,Zbo,Zbp,Zbq,Zbr,Zbt,Zby,Zcb,Zcf,Zcm,Zcp,Zcq,Zcs,Zcu,Zcv,Zcw,Zcx,Zcy,Zcz,Zda,Q2,List.set_cons_succ,List.getD_cons_zero,List.getD_cons_succ,Option.bind_some,Option.map_some,Zdf,Zdh,Zdj,Zdm,Zdr,Zdy,Zdz,Zea,Zeb,Zef,Zeh,Zei,Zej,Zem,decide_true,decide_false,Bool.not_true,List.getElem?_cons_zero,List.getElem?_cons_succ,Q3,Q4,if_true,Nat.reduceAdd,Nat.reduceSub,Nat.reduceLeDiff,Int.reduceNeg,eq_self,and_self,Q3,Q4,List.replicate_succ,List.replicate_zero,Q0,Q1,aload,acells,getArr,part,astore,putCells,List.all_cons,List.all_nil,cellOk,Bool.and_self,List.drop_zero,List.drop_succ_cons,List.take_succ_cons,List.take_zero,List.take_nil,Q0,Q1,Q2,rr,rs,mc,p,w1,x1,n1,n2,call,k1,k1',afill,evp,fillCells,Nat.reduceLT,resAll,resVals,resVal]
  ·obtain ⟨ca, cb, kv, rfl, hkv⟩ := cel
   rcases hl.form with rfl | ⟨e, rows, rfl⟩ <;> rcases hkv with rfl | ⟨i, jj, rfl⟩ <;> simp only [Zaa,Zab,Zac,Zad,Zae,Zai,Zaj,Zak,Zan,Zas,Zay,Zaz,Zba,Zbe,Zbh,Zbi,Zbj,Zbk,Zbl,Zbm,Zbn,Zbo,Zbp,Zbq,Zbr,Zbt,Zcf,Zcm,Zcp,Zcq,Zcs,Zcu,Zcv,Zcw,Zcx,Zcy,Zcz,Zda,Q2,List.set_cons_succ,List.getD_cons_zero,List.getD_cons_succ,Option.bind_some,Option.map_some,Zdh,Zdm,Zdr,Zdz,Zea,Zeb,Zef,Zeh,Zei,Zej,Zem,decide_true,decide_false,Bool.not_true,List.getElem?_cons_zero,List.getElem?_cons_succ,Q3,Q4,if_true,Nat.reduceAdd,Nat.reduceSub,Nat.reduceLeDiff,Int.reduceNeg,eq_self,and_self,Q3,Q4,List.replicate_succ,List.replicate_zero,Q0,Q1,aload,acells,getArr,part,astore,putCells,List.all_cons,List.all_nil,cellOk,Bool.and_self,List.drop_zero,List.drop_succ_cons,List.take_succ_cons,List.take_zero,List.take_nil,Q0,Q1,Q2,rr,rs,mc,p,call,k1,k1',afill,evp,fillCells,Nat.reduceLT,resAll,resVals,resVal]
 have fza : ∀ h : AHeap, mapO (freeze h 1000) [.agg (eGram g), .int .i64 s] = some ([AV.agg (eGram g), .int .i64 s].map fun x => (x, true)) := fun h => fz_2 (fz_gram g h) rfl
 refine ⟨fun q => ?_, fun q H => ?_⟩
 ·have ef : shF g.rules y h f s 0 = ((shT g.rules y h f s, 0), 0 + sizeN (shT g.rules y h f s)) := by unfold shF; rw [if_pos (by omega)]
  rw [ef] at hE okk
  obtain ⟨rep, _⟩ := okk rfl
  have rep : RepT h' 6 (shT g.rules y h f s) c := rep
  have rep2 := rep.setB (j := 1) (by omega) (.arr 0 3 true [c])
  obtain ⟨q1, q2, q3⟩ := fz_rep _ (d := 997) rep2 (by omega)
  refine ⟨_, q3, fun H => ?_⟩
  rw [hE] at run
  have fz : freeze (h'.set 1 (.arr 0 3 true [c])) 1000 (.tup [.agg c, .int .i64 0]) = some (.tup [.agg (q1.map (·.1)), .int .i64 0], q1.all (·.2) && (true && true)) := by
   have e1 : ∀ (hh : AHeap) (l : List AV), freeze hh 1000 (.tup l) = (mapO (freeze hh 999) l).map fun l => (.tup (l.map (·.1)), l.all (·.2)) := fun hh l => rfl
   have e2 : ∀ (hh : AHeap) (l : List AV), freeze hh 999 (.agg l) = (mapO (freeze hh 998) l).map fun l => (.agg (l.map (·.1)), l.all (·.2)) := fun hh l => rfl
   have e3 : freeze (h'.set 1 (.arr 0 3 true [c])) 999 (.agg c) = some (.agg (q1.map (·.1)), q1.all (·.2)) := by rw [e2, q2]; rfl
   rw [e1, mapO_2 e3 (rfl : freeze _ 999 (.int .i64 0) = some (.int .i64 0, true))]
   rfl
  exact lim_at rfl rfl P_tree_Short 1 fza run fz H
 ·have ef : shF g.rules y h f s 0 = ((zeroT, 4), 0) := by unfold shF; rw [if_neg (by omega)]
  rw [ef] at hE okz
  have cz := okz (fun e : (4 : Int) = 0 => by cases e)
  rw [hE, cz] at run
  exact lim_flat rfl rfl P_tree_Short 1 fza ⟨_, run⟩ (fun _ => rfl) H
end
end Go.Proofs.Ytkimloceaihplaa.Ai
