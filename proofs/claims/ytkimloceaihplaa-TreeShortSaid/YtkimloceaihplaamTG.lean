/- The reference's shortest tree: counted. -/
import Derived.Test.YtkimloceaihplaamTE
import Derived.Test.YtkimloceaihplaamTF
import Derived.Test.YtkimloceaihplaamTB
namespace Go.Proofs.Ytkimloceaihplaa.Ai
open Go Go.Proofs
open AV renaming junk → J
open List renaming getD_cons_zero → Q0, getD_cons_succ → Q1, set_cons_zero → Q2, set_cons_succ → Q3, length_cons → Q4, length_nil → Q5, cons_append → Q6, nil_append → Q7, replicate_succ → Q8, replicate_zero → Q9
set_option linter.unusedVariables false
set_option linter.unusedSimpArgs false
set_option maxRecDepth 10000
set_option maxHeartbeats 4000000
structure Firsts (rs : List RuleD) (n : Nat) (y h fs : List Int) : Prop where
 len : fs.length = n
 pick : ∀ A : Nat, A < n → 0 < h.getD A 0 → fs.getD A 0 = (pickD rs y h A : Int)
section
variable {g : GramD} {L : List (Int × Int)} {y h fs : List Int} {xf : AV}
theorem r_grown (hg : GramR g) (F : Fix3 g.rules g.nonterms.length L y h) (hf : Li fs xf) (ff : Firsts g.rules g.nonterms.length y h fs) (f : Nat) : ∀ (j : Nat), j ≤ f → ∀ (s : Int), Sm g.nonterms.length y s → rkS h s ≤ j → inI64 s → ∀ (left : Nat), left ≤ 65536 → ∀ H, lim G0.cfg (.func 60) [.agg (eGram g), .int .i64 s, xf, .int .i64 left] H = some (.int .i64 ((min (sizeN (shT g.rules y h f s)) (left + 1) : Nat) : Int), H) := by
 have hgl := hg.ok.rules
 rw [maxLen_eq] at hgl
 have nt := hg.good.nt
 have fzs : ∀ (s left : Int) (h : AHeap), mapO (freeze h 1000) [.agg (eGram g), .int .i64 s, xf, .int .i64 left] = some ([AV.agg (eGram g), .int .i64 s, xf, .int .i64 left].map fun x => (x, true)) := fun s left h => by
  have i1 : ∀ n : Int, freeze h 1000 (.int .i64 n) = some (.int .i64 n, true) := fun _ => rfl
  simp only [mapO,fz_gram,i1,hf.fz,List.map_cons,List.map_nil]
 intro j
 induction j with
 | zero =>
  intro _ s hs hr hi left hl H
  have p : 0 ≤ s := by
   apply Classical.byContradiction
   intro p
   rcases hs with hs | ⟨h1, h2, h3⟩
   ·exact p hs
   ·have := F.kn _ h1 h2 h3
    unfold rkS at hr
    rw [if_neg p] at hr
    omega
  rw [shT_leaf f p]
  have e : min (sizeN (leafT s)) (left + 1) = 1 := by simp [leafT, sizeN, sizeNs]
  rw [e]
  refine lim_flat rfl rfl P_r20_grown 1 (fzs s left) ?_ (fun _ => rfl) H
  rw [R_r20_grown]
  have z1 : ((1 : Nat) : Int) = 1 := rfl
  simp only [Zab,Zac,Zad,Zai,Zaj,Zak,Zam,Zar,Zay,Zaz,Zbi,Zbk,Zbn,Zbq,Zcs,Zcu,Zcv,Zcw,Zcx,Q2,Q3,Q0,Q1,Option.map_some,Zdk,Zeb,decide_true,Q4,Q5,if_true,Nat.reduceAdd,Nat.reduceSub,Int.reduceNeg,eq_self,true_and,Q4,Q5,Q8,Q9,Q6,Q7,p,z1,resAll,resVals,resVal,Option.some.injEq,Prod.mk.injEq,true_and,exists_eq']
 | succ j ih =>
  intro hjf s hs hr hi left hl H
  by_cases p : 0 ≤ s
  ·rw [shT_leaf f p]
   have e : min (sizeN (leafT s)) (left + 1) = 1 := by simp [leafT, sizeN, sizeNs]
   rw [e]
   refine lim_flat rfl rfl P_r20_grown 1 (fzs s left) ?_ (fun _ => rfl) H
   rw [R_r20_grown]
   have z1 : ((1 : Nat) : Int) = 1 := rfl
   simp only [Zab,Zac,Zad,Zai,Zaj,Zak,Zam,Zar,Zay,Zaz,Zbi,Zbk,Zbn,Zbq,Zcs,Zcu,Zcv,Zcw,Zcx,Q2,Q3,Q0,Q1,Option.map_some,Zdk,Zeb,decide_true,Q4,Q5,if_true,Nat.reduceAdd,Nat.reduceSub,Int.reduceNeg,eq_self,true_and,Q4,Q5,Q8,Q9,Q6,Q7,p,z1,resAll,resVals,resVal,Option.some.injEq,Prod.mk.injEq,true_and,exists_eq']
  obtain ⟨r, r1, r2, r3, r4, r5, r6⟩ := shT_in hg.vr F hs (by omega : rkS h s ≤ f) p
  have hA : nx s < g.nonterms.length ∧ 0 ≤ y.getD (nx s) (-1) ∧ y.getD (nx s) (-1) < most := by
   rcases hs with hs | hs
   ·exact absurd hs p
   ·exact hs
  have kn := F.kn _ hA.1 hA.2.1 hA.2.2
  have pk := ff.pick _ hA.1 kn.1
  obtain ⟨k, hk⟩ : ∃ k, k = pickD g.rules y h (nx s) := ⟨_, rfl⟩
  rw [← hk] at r1 r6 pk
  have kl := (List.getElem?_eq_some_iff.1 r1).1
  have kr := (List.getElem?_eq_some_iff.1 r1).2
  have ir := fun h => ix_map eRule h 5 false g.rules .i64 k kl rfl
  simp only [kr] at ir
  have rf := rule_f r
  obtain ⟨s1, s2⟩ := hg.sym r2
  have lf : nx s < fs.length := by rw [ff.len]; exact hA.1
  have xfs := fun h => hf.ix h .i64 (nx s) lf
  have e1 : ((nx s : Nat) : Int) = -1 - s := by unfold nx; omega
  rw [e1, ← getD_get lf 0, pk] at xfs
  have w1 : IntKind.i64.wrap (-1 - s) = -1 - s := w64 (by omega) (by omega)
  obtain ⟨HH, hHH⟩ : ∃ H : AHeap, H = [.arr 0 5 true [eGram g], .arr 0 5 true [eRule r]] := ⟨_, rfl⟩
  have q1 : aload HH 1 false (.ptr 1 0 0 1) = some (.vsl false (eIs r.right)) := by rw [hHH, ld_p _ 1 1 0 0 1 false 5 true _ (eRule r) rfl rfl]; rfl
  have q2 : aload HH 5 true (.ptr 0 0 0 0) = some (.agg (eGram g)) := by rw [hHH]; exact (ld_g _ rfl).2.2
  have lq := (li_vsl false r.right).len
  have loop : ∀ (d i m n : Nat), r.right.length = i + d → d < m → 1 ≤ n → n ≤ left + 1 → loopN (evalCode (lim G0.cfg) 2000 B_r20_grown_0) m ⟨(J::J::xf :: .int .i64 left :: .ptr 0 0 0 0::J::J::J::J::.int .i64 n :: .ptr 1 0 0 0 :: .int .i64 i::J::J::J::J::J::J::J::J::J::J::J::J::J::J::J::J::J::J::J::J::J::J::J::J::J::J::J::J::J::J::J::J::J::J::J::J::J::J::[]), HH⟩ = some (.exit 0, ⟨(J::J::J::J::J::J::J::J::J::.int .i64 ((min (n + sizS g.rules y h f (r.right.drop i)) (left + 1) : Nat) : Int)::J::J::J::J::J::J::J::J::J::J::J::J::J::J::J::J::J::J::J::J::J::J::J::J::J::J::J::J::J::J::J::J::J::J::J::J::J::J::J::J::[]), HH⟩) := by
   intro d
   induction d with
   | zero =>
    intro i m n h1 h2 h3 h4
    obtain ⟨m, rfl⟩ : ∃ q, m = q + 1 := ⟨m - 1, by omega⟩
    have c : ¬ ((i : Int) < r.right.length) := by omega
    have e : r.right.drop i = [] := List.drop_eq_nil_iff.2 (by omega)
    have ez : sizS g.rules y h f [] = 0 := rfl
    have em : min (n + 0) (left + 1) = n := by omega
    rw [e, ez, em]
    simp only [loop_e,EB_r20_grown_0,Zab,Zac,Zad,Zag,Zah,Zaj,Zak,Zal,Zas,Zav,Zay,Zbe,Zbh,Zbi,Zbj,Zbk,Zbl,Zbo,Zbq,Zby,Zcg,Zcv,Zcw,Zcx,Zdb,Zdc,Zdd,Q2,Q3,Q0,Q1,Zdh,Zdx,decide_false,Nat.reduceAdd,eq_self,q1,lq,c]
   | succ d ihd =>
    intro i m n h1 h2 h3 h4
    obtain ⟨m, rfl⟩ : ∃ q, m = q + 1 := ⟨m - 1, by omega⟩
    have c0 : i < r.right.length := by omega
    have c : (i : Int) < r.right.length := by omega
    have e : r.right.drop i = r.right[i] :: r.right.drop (i + 1) := List.drop_eq_getElem_cons c0
    have ez : sizS g.rules y h f (r.right[i] :: r.right.drop (i + 1)) = sizeN (shT g.rules y h f r.right[i]) + sizS g.rules y h f (r.right.drop (i + 1)) := rfl
    rw [e, ez]
    by_cases b : (n : Int) ≤ left
    ·have xq := fun h => (li_vsl false r.right).ix h .i64 i c0
     have hw := w64s (n := i) (by omega)
     have mem := List.getElem_mem c0
     obtain ⟨x1, x2, x3⟩ := r5 _ mem
     have sy := s2 _ mem
     have call := ih (by omega) r.right[i] x1 (by omega) ⟨by omega, by omega⟩ (left - n) (by omega) HH
     have ew : IntKind.i64.wrap ((left : Int) - n) = ((left - n : Nat) : Int) := (w64 (by omega) (by omega)).trans (by omega)
     obtain ⟨M, hM⟩ : ∃ M, M = min (sizeN (shT g.rules y h f r.right[i])) (left - n + 1) := ⟨_, rfl⟩
     rw [← hM] at call
     have w2 := w64a (a := n) (b := M) (by omega)
     have ee := ihd (i + 1) m (n + M) (by omega) (by omega) (by omega) (by omega)
     have eq : min (n + M + sizS g.rules y h f (r.right.drop (i + 1))) (left + 1) = min (n + (sizeN (shT g.rules y h f r.right[i]) + sizS g.rules y h f (r.right.drop (i + 1)))) (left + 1) := by omega
     rw [eq] at ee
     rw [← ee]
     simp only [loop_e,EB_r20_grown_0,Zaa,Zab,Zac,Zad,Zae,Zag,Zaj,Zak,Zan,Zar,Zau,Zay,Zaz,Zbb,Zbg,Zbi,Zbj,Zbk,Zbl,Zbo,Zbq,Zby,Zcb,Zcg,Zcp,Zcq,Zcv,Zcw,Zcx,Zcz,Zda,Zdb,Zdc,Zdd,Q2,Q3,Q0,Q1,Zde,Zdf,Zdh,Zdi,Zdx,Zen,decide_true,Nat.reduceAdd,eq_self,Q6,Q7,q1,q2,lq,c,b,xq,ew,call,w2,hw]
    ·have em : min (n + (sizeN (shT g.rules y h f r.right[i]) + sizS g.rules y h f (r.right.drop (i + 1)))) (left + 1) = n := by omega
     rw [em]
     simp only [loop_e,EB_r20_grown_0,Zab,Zac,Zad,Zag,Zah,Zaj,Zak,Zal,Zas,Zav,Zay,Zbb,Zbg,Zbi,Zbj,Zbk,Zbl,Zbo,Zbq,Zby,Zcg,Zcv,Zcw,Zcx,Zdb,Zdc,Zdd,Q2,Q3,Q0,Q1,Zdh,Zdi,Zdx,decide_true,decide_false,Nat.reduceAdd,eq_self,q1,lq,c,b]
  have e := loop r.right.length 0 2000 1 (by omega) (by omega) (Nat.le_refl _) (by omega)
  have z1 : ((1 : Nat) : Int) = 1 := rfl
  rw [List.drop_zero, z0, z1, hHH] at e
  have sz : sizeN (shT g.rules y h f s) = 1 + sizS g.rules y h f r.right := by rw [r6, sizeN]; rfl
  rw [sz]
  obtain ⟨l1, l2, l3⟩ := ld_g (g := g) [.arr 0 5 true [eGram g]] rfl
  have st : astore [.arr 0 5 true [eGram g], .arr 0 5 true [[.int .i64 0, .nilS, .nilS, .str [], .int .i64 0]]] 5 (.ptr 1 0 0 0) (.agg (eRule r)) = some [.arr 0 5 true [eGram g], .arr 0 5 true [eRule r]] := by
   simp [astore, putCells, getArr, cellsOf, cellOk]
  refine lim_flat rfl rfl P_r20_grown 2000 (fzs s left) ?_ (fun _ => rfl) H
  rw [R_r20_grown]
  simp only [Zaa,Zab,Zac,Zad,Zae,Zaf,Zag,Zai,Zaj,Zak,Zap,Zas,Zat,Zay,Zaz,Zba,Zbi,Zbk,Zbm,Zbn,Zbo,Zbp,Zbq,Zby,Zcb,Zcs,Zcu,Zcv,Zcw,Zcx,Zcy,Zdb,Zdc,Zdd,Q2,Q3,Q0,Q1,Option.map_some,Zdf,Zdk,Zdx,Zeb,Zen,decide_false,Q4,Q5,if_true,Nat.reduceAdd,Nat.reduceSub,Int.reduceNeg,eq_self,true_and,Q4,Q5,Q8,Q9,Q6,Q7,p,l2,w1,xfs,ir,rf,st,e,resAll,resVals,resVal,Option.some.injEq,Prod.mk.injEq,true_and,exists_eq']
end
end Go.Proofs.Ytkimloceaihplaa.Ai
namespace Go.Proofs.Ytkimloceaihplaa.Ai
open Go Go.Proofs
open List renaming set_cons_zero → Q0, length_cons → Q1, cons_append → Q2, length_nil → Q3, nil_append → Q4, getElem?_cons_zero → Q5, getD_cons_zero → Q6, getD_cons_succ → Q7, replicate_succ → Q8, replicate_zero → Q9, take_succ_cons → Z0, set_cons_succ → Z1, drop_zero → Z5, take_zero → Z6
open Option.some renaming injEq → Z2
open Option renaming bind_some → Z3, map_some → Z4
set_option linter.unusedVariables false
set_option linter.unusedSimpArgs false
set_option maxRecDepth 10000
set_option maxHeartbeats 4000000
theorem f_tthere (g : GramD) (hg : g.Ok) (s : Int) (hs : inI64 s) (H : AHeap) : lim G0.cfg (.func 51) [.agg (eGram g), .int .i64 s] H = some (.bool (isSym g s), H) := by
 refine lim_flat rfl rfl P_tree_there 1 (fun h => fz_2 (fz_gram g h) rfl) ?_ (fun _ => rfl) H
 have hw : IntKind.i64.wrap (-1 - s) = -1 - s := by obtain ⟨a, b⟩ := hs; exact w64 (by omega) (by omega)
 have hd : decide (-(g.nonterms.length : Int) ≤ s) = decide (-1 - s < (g.nonterms.length : Int)) := by rw [decide_eq_decide]; omega
 rw [R_tree_there]
 unfold isSym
 rw [hd]
 by_cases h1 : s < (g.terms.length : Int)
 ·simp only [Zab,Zac,Zai,Zaj,Zak,Zay,Zaz,Zbb,Zbg,Zbi,Zbj,Zbk,Zbl,Zbn,Zbo,Zbq,Zby,Zcg,Zcs,Zcu,Zcv,Zcw,Zcx,Q0,Z1,Q6,Q7,Z3,Z4,Zdf,Zdh,Zdt,Zdx,Zdz,Zeb,Zeq,decide_true,Q5,Q1,Q3,if_true,Nat.reduceAdd,Nat.reduceSub,Nat.reduceLeDiff,Int.reduceNeg,eq_self,true_and,Q1,Q3,Q8,Q9,Q2,Q4,aload,acells,getArr,part,Z5,List.drop_succ_cons,Z0,Z6,Q2,Q4,Q0,h1,hw,resAll,resVals,resVal,Z2,Prod.mk.injEq,true_and,Bool.true_and,exists_eq']
 ·simp only [Zab,Zac,Zai,Zaj,Zak,Zay,Zaz,Zbe,Zbh,Zbi,Zbj,Zbk,Zbl,Zbn,Zbo,Zbq,Zby,Zcg,Zcs,Zcu,Zcv,Zcw,Zcx,Q0,Z1,Q6,Q7,Z3,Z4,Zdh,Zdt,Zdx,Zdz,Zeb,Zeq,decide_false,Q5,Q1,Q3,if_true,Nat.reduceAdd,Nat.reduceSub,Nat.reduceLeDiff,Int.reduceNeg,eq_self,true_and,Q1,Q3,Q8,Q9,Q2,Q4,aload,acells,getArr,part,Z5,Z0,Z6,Q2,Q4,Q0,h1,resAll,resVals,resVal,Z2,Prod.mk.injEq,true_and,Bool.false_and,exists_eq']
theorem r_Symbol (g : GramD) (hg : g.Ok) (s : Int) (H : AHeap) : lim G0.cfg (.func 57) [.agg (eGram g), .int .i64 s] H = some (.bool (isSym g s), H) := by
 refine lim_flat rfl rfl P_r20_Symbol 1 (fun h => fz_2 (fz_gram g h) rfl) ?_ (fun _ => rfl) H
 have hw : IntKind.i64.wrap (-(g.nonterms.length : Int)) = -(g.nonterms.length : Int) := by have := hg.nonterms; rw [maxLen_eq] at this; exact w64 (by omega) (by omega)
 rw [R_r20_Symbol]
 unfold isSym
 by_cases h1 : s < (g.terms.length : Int)
 ·simp only [Zab,Zac,Zai,Zaj,Zak,Zay,Zaz,Zbb,Zbg,Zbi,Zbj,Zbk,Zbl,Zbn,Zbo,Zbq,Zbr,Zby,Zcg,Zcs,Zcu,Zcv,Zcw,Zcx,Q0,Z1,Q6,Q7,Z3,Z4,Zdh,Zdk,Zds,Zdt,Zdx,Zdz,Zeb,Zeq,decide_true,Q5,Q1,Q3,if_true,Nat.reduceAdd,Nat.reduceSub,Nat.reduceLeDiff,eq_self,true_and,Q1,Q3,Q8,Q9,Q2,Q4,aload,acells,getArr,part,Z5,List.drop_succ_cons,Z0,Z6,Q2,Q4,Q0,h1,hw,resAll,resVals,resVal,Z2,Prod.mk.injEq,true_and,Bool.true_and,exists_eq']
 ·simp only [Zab,Zac,Zai,Zaj,Zak,Zay,Zaz,Zbe,Zbh,Zbi,Zbj,Zbk,Zbl,Zbn,Zbo,Zbq,Zby,Zcg,Zcs,Zcu,Zcv,Zcw,Zcx,Q0,Z1,Q6,Q7,Z3,Z4,Zdh,Zdt,Zdx,Zdz,Zeb,Zeq,decide_false,Q5,Q1,Q3,if_true,Nat.reduceAdd,Nat.reduceSub,Nat.reduceLeDiff,eq_self,true_and,Q1,Q3,Q8,Q9,Q2,Q4,aload,acells,getArr,part,Z5,Z0,Z6,Q2,Q4,Q0,h1,resAll,resVals,resVal,Z2,Prod.mk.injEq,true_and,Bool.false_and,exists_eq']
end Go.Proofs.Ytkimloceaihplaa.Ai
namespace Go.Proofs.Ytkimloceaihplaa.Ai
open Go Go.Proofs
open AV renaming junk → J
open List renaming set_cons_zero → Q0, getD_cons_zero → Q1, getD_cons_succ → Q2, set_cons_succ → Q3, cons_append → Q4, nil_append → Q5, length_cons → Q6, length_nil → Q7, getElem?_eq_some_iff → Q8, getElem?_eq_getElem → Q9, getElem?_cons_zero → Z0, getElem?_cons_succ → Z1, replicate_succ → Z2, replicate_zero → Z3, drop_succ_cons → Z4, take_succ_cons → Z5
set_option linter.unusedVariables false
set_option linter.unusedSimpArgs false
set_option maxRecDepth 10000
set_option maxHeartbeats 4000000
def hasH (rs : List RuleD) (y h : List Int) (A j : Nat) : Prop := ∃ r, rs[j]? = some r ∧ r.left = (A : Int) ∧ 0 < h.getD A 0 ∧ heightD y h r = h.getD A 0
def LowI (rs : List RuleD) (y h : List Int) (A i : Nat) (r : Int) : Prop := (r = -1 ∧ ∀ j, i ≤ j → ¬ hasH rs y h A j) ∨ (∃ k : Nat, r = k ∧ i ≤ k ∧ hasH rs y h A k ∧ ∀ j, i ≤ j → j < k → ¬ hasH rs y h A j)
theorem low_pick {rs : List RuleD} {n : Nat} {L : List (Int × Int)} {y h : List Int} (F : Fix3 rs n L y h) {A : Nat} (hA : A < n) (hp : 0 < h.getD A 0) {r : Int} (hl : LowI rs y h A 0 r) : r = (pickD rs y h A : Int) := by
 obtain ⟨q, q1, q2, q3⟩ := F.sup A hA hp
 obtain ⟨j, hj, rfl⟩ := List.getElem_of_mem q1
 have has : hasH rs y h A j := ⟨_, Q9 hj, q2, hp, q3⟩
 rcases hl with ⟨_, hl⟩ | ⟨k, rfl, _, hk, hm⟩
 ·exact absurd has (hl j (by omega))
 ·congr 1
  symm
  obtain ⟨r, r1, r2, r3, r4⟩ := hk
  have kl := (Q8.1 r1).1
  have kr := (Q8.1 r1).2
  unfold pickD
  rw [List.findIdx_eq kl]
  refine ⟨by rw [kr]; simp [r2, r4], fun i hi => ?_⟩
  have := hm i (by omega) hi
  have il : i < rs.length := by omega
  cases e : (decide ((rs[i]).left = (A : Int)) && decide (heightD y h rs[i] = h.getD A 0)) with
  | false => rfl
  | true =>
   rw [Bool.and_eq_true, decide_eq_true_eq, decide_eq_true_eq] at e
   exact absurd ⟨_, Q9 il, e.1, hp, e.2⟩ this
section
variable {g : GramD} {L : List (Int × Int)} {y h : List Int} {xy xh : AV}
theorem short_1 (hg : GramR g) (hy : Li y xy) (hh : Li h xh) (ly : y.length = g.nonterms.length) (lh : h.length = g.nonterms.length) (yb : ∀ c ∈ y, -1 ≤ c ∧ c ≤ most) (hb : ∀ c ∈ h, 0 ≤ c ∧ c ≤ 10000) (s : Int) (w9 : AV) (A : Nat) (hA : A < g.nonterms.length) (N : Nat) (H : AHeap) (e0 : H[0]? = some (.arr 0 5 true [eGram g])) :
  ∀ (i m : Nat) (r : Int), i ≤ g.rules.length → i < m → LowI g.rules y h A i r → ∃ r', loopN (evalCode (lim G0.cfg) N B_r20_Short_1) m ⟨(J::.int .i64 s :: .ptr 0 0 0 0::J::.ptr 1 0 0 0::J::J::xy :: xh :: w9 :: .int .i64 A :: .int .i64 r :: .int .i64 ((i : Int) - 1)::J::J::J::J::J::J::J::J::J::J::J::J::J::J::J::J::J::J::J::J::J::J::J::J::J::J::J::J::J::J::J::J::J::J::J::J::J::J::J::J::J::J::J::J::J::J::J::J::J::J::J::J::J::J::J::J::J::J::J::J::J::J::J::J::J::J::J::J::J::J::J::J::J::J::J::J::J::J::J::J::J::J::J::J::J::J::J::J::J::J::J::J::J::J::[]), H⟩ = some (.exit 2, ⟨(J::.int .i64 s :: .ptr 0 0 0 0::J::.ptr 1 0 0 0::J::J::xy :: xh :: w9 :: .int .i64 A :: .int .i64 r'::J::J::J::J::J::J::J::J::J::J::J::J::J::J::J::J::J::J::J::J::J::J::J::J::J::J::J::J::J::J::J::J::J::J::J::J::J::J::J::J::J::J::J::J::J::J::J::J::J::J::J::J::J::J::J::J::J::J::J::J::J::J::J::J::J::J::J::J::J::J::J::J::J::J::J::J::J::J::J::J::J::J::J::J::J::J::J::J::J::J::J::J::J::J::J::[]), H⟩) ∧ LowI g.rules y h A 0 r' := by
 have hgl := hg.ok.rules
 rw [maxLen_eq] at hgl
 obtain ⟨l1, l2, l3⟩ := ld_g H e0
 have lk : A < h.length := by omega
 have xh' := fun H => hh.ix H .i64 A lk
 rw [← getD_get lk 0] at xh'
 intro i
 induction i with
 | zero =>
  intro m r h1 h2 hl
  obtain ⟨m, rfl⟩ : ∃ q, m = q + 1 := ⟨m - 1, by omega⟩
  have z : ((0 : Nat) : Int) - 1 = -1 := rfl
  have c : ¬ (0 : Int) ≤ -1 := by omega
  rw [z]
  refine ⟨r, ?_, hl⟩
  simp only [loop_e,EB_r20_Short_1,Zab,Zac,Zad,Zag,Zah,Zaj,Zak,Zal,Zas,Zav,Zay,Zbi,Zbk,Zbq,Zcv,Zcw,Zcx,Zdb,Zdc,Zdd,Q0,Q3,Q1,Q2,Zdk,decide_false,Int.reduceNeg,eq_self,c]
 | succ i ih =>
  intro m r h1 h2 hl
  obtain ⟨m, rfl⟩ : ∃ q, m = q + 1 := ⟨m - 1, by omega⟩
  have z : ((i + 1 : Nat) : Int) - 1 = (i : Int) := by omega
  have c : (0 : Int) ≤ (i : Int) := by omega
  have il : i < g.rules.length := by omega
  have ir := fun h => ix_map eRule h 5 false g.rules .i64 i il rfl
  have rh := r_height hg hy hh ly lh yb hb i il
  have gi : g.rules[i]? = some g.rules[i] := Q9 il
  obtain ⟨q, hq⟩ : ∃ q, q = g.rules[i] := ⟨_, rfl⟩
  rw [← hq] at ir rh gi
  have rf := rule_f q
  have hw : IntKind.i64.wrap ((i : Int) - 1) = (i : Int) - 1 := w64 (by omega) (by omega)
  obtain ⟨Z, hZ⟩ : ∃ Z, Z = h.getD A 0 := ⟨_, rfl⟩
  obtain ⟨D, hD⟩ : ∃ D, D = heightD y h q := ⟨_, rfl⟩
  rw [← hZ] at xh'
  rw [← hD] at rh
  rw [z]
  have down : ∀ (hn : ¬ hasH g.rules y h A i), LowI g.rules y h A i r := fun hn => by
   rcases hl with ⟨e, hl⟩ | ⟨k, e, k1, k2, k3⟩
   ·refine .inl ⟨e, fun j hj => ?_⟩
    by_cases q : j = i
    ·subst q; exact hn
    ·exact hl j (by omega)
   ·refine .inr ⟨k, e, by omega, k2, fun j h1 h2 => ?_⟩
    by_cases q : j = i
    ·subst q; exact hn
    ·exact k3 j (by omega) h2
  by_cases c1 : q.left = (A : Int)
  case neg =>
   have d1 : decide (q.left = (A : Int)) = false := decide_eq_false c1
   obtain ⟨r', k1, k2⟩ := ih m r (by omega) (by omega) (down (fun ⟨x, x1, x2, _⟩ => by rw [gi] at x1; cases x1; exact c1 x2))
   refine ⟨r', ?_, k2⟩
   rw [← k1]
   simp only [loop_e,EB_r20_Short_1,Zaa,Zab,Zac,Zad,Zae,Zag,Zaj,Zak,Zan,Zar,Zas,Zau,Zay,Zbe,Zbh,Zbi,Zbj,Zbk,Zbl,Zbo,Zbq,Zby,Zcb,Zcv,Zcw,Zcx,Zdb,Zdc,Zdd,Q0,Q3,Q1,Q2,Zdf,Zdk,Zdl,Zdx,Zdy,decide_true,Nat.reduceAdd,eq_self,c,l2,ir,rf,d1,hw]
  case pos =>
  have d1 : decide (q.left = (A : Int)) = true := decide_eq_true c1
  by_cases c2 : 0 < Z
  case neg =>
   obtain ⟨r', k1, k2⟩ := ih m r (by omega) (by omega) (down (fun ⟨x, x1, x2, x3, _⟩ => by omega))
   refine ⟨r', ?_, k2⟩
   rw [← k1]
   simp only [loop_e,EB_r20_Short_1,Zaa,Zab,Zac,Zad,Zae,Zag,Zaj,Zak,Zan,Zar,Zas,Zau,Zay,Zbb,Zbe,Zbg,Zbh,Zbi,Zbj,Zbk,Zbl,Zbo,Zbq,Zby,Zcb,Zcv,Zcw,Zcx,Zdb,Zdc,Zdd,Q0,Q3,Q1,Q2,Zdf,Zdj,Zdk,Zdl,Zdx,Zdy,Zen,decide_true,decide_false,Nat.reduceAdd,eq_self,c,l2,ir,rf,d1,xh',c2,hw]
  case pos =>
  by_cases c3 : D = Z
  case neg =>
   have d3 : decide (D = Z) = false := decide_eq_false c3
   obtain ⟨r', k1, k2⟩ := ih m r (by omega) (by omega) (down (fun ⟨x, x1, x2, x3, x4⟩ => by rw [gi] at x1; cases x1; omega))
   refine ⟨r', ?_, k2⟩
   rw [← k1]
   simp only [loop_e,EB_r20_Short_1,Zaa,Zab,Zac,Zad,Zae,Zag,Zaj,Zak,Zan,Zar,Zas,Zau,Zay,Zaz,Zbb,Zbg,Zbi,Zbj,Zbk,Zbl,Zbo,Zbq,Zby,Zcb,Zcp,Zcq,Zcv,Zcw,Zcx,Zcz,Zda,Zdb,Zdc,Zdd,Q0,Q3,Q1,Q2,Zdf,Zdj,Zdk,Zdl,Zdx,Zdy,Zen,decide_true,Nat.reduceAdd,eq_self,Q4,Q5,c,l2,l3,ir,rf,d1,xh',c2,rh,d3,hw]
  case pos =>
   have d3 : decide (D = Z) = true := decide_eq_true c3
   obtain ⟨r', k1, k2⟩ := ih m (i : Int) (by omega) (by omega) (.inr ⟨i, rfl, Nat.le_refl _, ⟨q, gi, c1, by omega, by omega⟩, fun j h1 h2 => by omega⟩)
   refine ⟨r', ?_, k2⟩
   rw [← k1]
   simp only [loop_e,EB_r20_Short_1,Zaa,Zab,Zac,Zad,Zae,Zag,Zaj,Zak,Zan,Zar,Zau,Zay,Zaz,Zbb,Zbg,Zbi,Zbj,Zbk,Zbl,Zbo,Zbq,Zby,Zcb,Zcp,Zcq,Zcv,Zcw,Zcx,Zcz,Zda,Zdb,Zdc,Zdd,Q0,Q3,Q1,Q2,Zdf,Zdj,Zdk,Zdl,Zdx,Zdy,Zen,decide_true,Nat.reduceAdd,eq_self,Q4,Q5,c,l2,l3,ir,rf,d1,xh',c2,rh,d3,hw]
theorem short_0 (hg : GramR g) (hy : Li y xy) (hh : Li h xh) (ly : y.length = g.nonterms.length) (lh : h.length = g.nonterms.length) (yb : ∀ c ∈ y, -1 ≤ c ∧ c ≤ most) (hb : ∀ c ∈ h, 0 ≤ c ∧ c ≤ 10000) (s : Int) (N : Nat) (hN : g.rules.length < N) :
  ∀ (d i m : Nat) (fs : List Int) (H : AHeap) (w : AV) (q : Option Nat), g.nonterms.length = i + d → d < m → H[0]? = some (.arr 0 5 true [eGram g]) → H[1]? = some (.arr 0 3 true [[.int .i64 0, .int .i64 0, .nilS]]) → OwnG 1 (eIs fs) w H q → (∀ j, q = some j → 2 ≤ j) → fs.length = i → (∀ A : Nat, A < i → LowI g.rules y h A 0 (fs.getD A 0)) →
  ∃ fs' H' w' q', loopN (evalCode (lim G0.cfg) N B_r20_Short_0) m ⟨(J::.int .i64 s :: .ptr 0 0 0 0::J::.ptr 1 0 0 0::J::J::xy :: xh :: w :: .int .i64 i::J::J::J::J::J::J::J::J::J::J::J::J::J::J::J::J::J::J::J::J::J::J::J::J::J::J::J::J::J::J::J::J::J::J::J::J::J::J::J::J::J::J::J::J::J::J::J::J::J::J::J::J::J::J::J::J::J::J::J::J::J::J::J::J::J::J::J::J::J::J::J::J::J::J::J::J::J::J::J::J::J::J::J::J::J::J::J::J::J::J::J::J::J::J::J::J::[]), H⟩ = some (.exit 0, ⟨(J::.int .i64 s :: .ptr 0 0 0 0::J::.ptr 1 0 0 0::J::J::J::J::w'::J::J::J::J::J::J::J::J::J::J::J::J::J::J::J::J::J::J::J::J::J::J::J::J::J::J::J::J::J::J::J::J::J::J::J::J::J::J::J::J::J::J::J::J::J::J::J::J::J::J::J::J::J::J::J::J::J::J::J::J::J::J::J::J::J::J::J::J::J::J::J::J::J::J::J::J::J::J::J::J::J::J::J::J::J::J::J::J::J::J::J::J::J::J::J::J::J::[]), H'⟩) ∧ H'[0]? = some (.arr 0 5 true [eGram g]) ∧ H'[1]? = some (.arr 0 3 true [[.int .i64 0, .int .i64 0, .nilS]]) ∧ OwnG 1 (eIs fs') w' H' q' ∧ fs'.length = g.nonterms.length ∧ (∀ A : Nat, A < g.nonterms.length → LowI g.rules y h A 0 (fs'.getD A 0)) := by
 have nt := hg.good.nt
 have hgl := hg.ok.rules
 rw [maxLen_eq] at hgl
 intro d
 induction d with
 | zero =>
  intro i m fs H w q h1 h2 e0 e1 ow tq lf hp
  obtain ⟨m, rfl⟩ : ∃ q, m = q + 1 := ⟨m - 1, by omega⟩
  have c : ¬ ((i : Int) < g.nonterms.length) := by omega
  obtain ⟨l1, l2, l3⟩ := ld_g H e0
  refine ⟨fs, H, w, q, ?_, e0, e1, ow, by omega, fun A hA => hp A (by omega)⟩
  simp only [loop_e,EB_r20_Short_0,Zab,Zac,Zad,Zag,Zah,Zaj,Zak,Zal,Zas,Zav,Zay,Zbi,Zbk,Zbo,Zbq,Zby,Zcg,Zcv,Zcx,Zdb,Zdc,Zdd,Q0,Q3,Q1,Q2,Zdh,Zdt,Zdx,Zeq,decide_false,Nat.reduceAdd,Int.reduceNeg,eq_self,l1,c]
 | succ d ih =>
  intro i m fs H w q h1 h2 e0 e1 ow tq lf hp
  obtain ⟨m, rfl⟩ : ∃ q, m = q + 1 := ⟨m - 1, by omega⟩
  have c : (i : Int) < g.nonterms.length := by omega
  obtain ⟨l1, l2, l3⟩ := ld_g H e0
  have hw := w64s (n := i) (by omega)
  obtain ⟨r, k1, k2⟩ := short_1 hg hy hh ly lh yb hb s w i (by omega) N H e0 g.rules.length N (-1) (Nat.le_refl _) hN (.inl ⟨rfl, fun j hj ⟨x, x1, _⟩ => by
   have := (Q8.1 x1).1
   omega⟩)
  have hw1 : IntKind.i64.wrap ((g.rules.length : Int) - 1) = (g.rules.length : Int) - 1 := w64 (by omega) (by omega)
  obtain ⟨i2, ver, H1, r1, r2, r3, r4, r5⟩ := ow.push true (c := [.int .i64 r]) rfl rfl (eIs_all _) 8 (by omega) (by rw [Zep]; omega)
  rw [Zep] at r1 r2
  have e2 : eIs fs ++ [[.int .i64 r]] = eIs (fs ++ [r]) := by rw [eIs_append]; rfl
  rw [e2] at r2
  obtain ⟨vv, hvv⟩ : ∃ x, x = AV.hsl i2 ver 0 (fs.length + 1) none := ⟨_, rfl⟩
  rw [← hvv] at r1 r2
  have lt1 := get_len e1
  obtain ⟨fs', H', w', q', j1, j2, j3, j4, j5, j6⟩ := ih (i + 1) m (fs ++ [r]) H1 vv (some i2) (by omega) (by omega) (r3 0 _ e0 (fun f => by have := tq 0 f; omega)) (r3 1 _ e1 (fun f => by have := tq 1 f; omega)) r2 (fun j f => by cases f; rcases r4 with u | ⟨_, u⟩; exact tq _ u; omega) (by simp [lf]) (fun A hA => by
   by_cases q : A < fs.length
   ·have : (fs ++ [r]).getD A 0 = fs.getD A 0 := by simp [List.getD_eq_getElem?_getD, List.getElem?_append_left q]
    rw [this]; exact hp A (by omega)
   ·have e : A = fs.length := by omega
    have : (fs ++ [r]).getD A 0 = r := by rw [e]; simp
    rw [this, e, lf]; exact k2)
  refine ⟨fs', H', w', q', ?_, j2, j3, j4, j5, j6⟩
  rw [← j1]
  have lt2 := fun h : AHeap => lit1' h (.int .i64 0) (.int .i64 r) rfl rfl
  simp only [loop_e,EB_r20_Short_0,Zaa,Zab,Zac,Zad,Zae,Zaf,Zag,Zaj,Zak,Zan,Zap,Zar,Zat,Zau,Zay,Zaz,Zbi,Zbk,Zbo,Zbq,Zby,Zcg,Zci,Zcn,Zcv,Zcw,Zcx,Zdb,Zdc,Zdd,Q0,Q3,Q1,Q2,Zde,Zdf,Zdh,Zdt,Zdx,Zeq,decide_true,Nat.reduceAdd,Int.reduceNeg,eq_self,List.length_map,l1,l2,c,hw1,k1,ev2,lt2,r1,hw]
theorem r_Short_bad (g : GramD) (hg : g.Ok) (s : Int) (h0 : gramErr g ≠ 0) (H : AHeap) : lim G0.cfg (.func 29) [.agg (eGram g), .int .i64 s] H = some (.tup [.agg [.int .i64 0, .int .i64 0, .nilS], .int .i64 (gramErr g)], H) := by
 refine lim_flat rfl rfl P_r20_Short 1 (fun h => fz_2 (fz_gram g h) rfl) ?_ (fun _ => rfl) H
 have rr := r_Right g hg
 have d0 : decide (gramErr g = 0) = false := decide_eq_false h0
 rw [R_r20_Short]
 simp only [Zab,Zac,Zad,Zai,Zaj,Zak,Zam,Zar,Zay,Zaz,Zba,Zbi,Zbk,Zbm,Zbn,Zbo,Zbp,Zbq,Zcm,Zcp,Zcq,Zcs,Zcu,Zcv,Zcw,Zcx,Zcy,Zcz,Zda,Q0,Q3,Q1,Q2,Option.bind_some,Option.map_some,Zdm,Zea,Zeb,Bool.not_false,Z0,Z1,Q6,Q7,if_true,Nat.reduceAdd,Nat.reduceSub,Nat.reduceLeDiff,Int.reduceNeg,eq_self,and_self,true_and,Q6,Q7,Z2,Z3,Q4,Q5,aload,acells,getArr,part,astore,putCells,List.all_cons,List.all_nil,cellOk,Bool.and_self,List.drop_zero,Z4,Z5,List.take_zero,List.take_nil,Q4,Q5,Q0,rr,d0,afill,evp,fillCells,resAll,resVals,resVal,Option.some.injEq,Prod.mk.injEq,true_and,exists_eq']
theorem r_Short_sym (hg : GramR g) (h0 : gramErr g = 0) (s : Int) (hs : isSym g s = false) (H : AHeap) : lim G0.cfg (.func 29) [.agg (eGram g), .int .i64 s] H = some (.tup [.agg [.int .i64 0, .int .i64 0, .nilS], .int .i64 21], H) := by
 refine lim_flat rfl rfl P_r20_Short 1 (fun h => fz_2 (fz_gram g h) rfl) ?_ (fun _ => rfl) H
 have rr := r_Right g hg.ok
 have rs := r_Symbol g hg.ok s
 rw [h0] at rr
 rw [hs] at rs
 have d0 : decide ((0 : Int) = 0) = true := rfl
 rw [R_r20_Short]
 simp only [Zaa,Zab,Zac,Zad,Zai,Zaj,Zak,Zam,Zar,Zas,Zay,Zaz,Zba,Zbi,Zbk,Zbm,Zbn,Zbo,Zbp,Zbq,Zbr,Zcm,Zcp,Zcq,Zcs,Zcu,Zcv,Zcw,Zcx,Zcy,Zcz,Zda,Q0,Q3,Q1,Q2,Option.bind_some,Option.map_some,Zdm,Zdr,Zea,Zeb,decide_true,Bool.not_true,Bool.not_false,Z0,Z1,Q6,Q7,if_true,Nat.reduceAdd,Nat.reduceSub,Nat.reduceLeDiff,Int.reduceNeg,eq_self,and_self,true_and,Q6,Q7,Z2,Z3,Q4,Q5,aload,acells,getArr,part,astore,putCells,List.all_cons,List.all_nil,cellOk,Bool.and_self,List.drop_zero,Z4,Z5,List.take_zero,List.take_nil,Q4,Q5,Q0,rr,rs,afill,evp,fillCells,resAll,resVals,resVal,Option.some.injEq,Prod.mk.injEq,true_and,exists_eq']
theorem r_Short_useless (hg : GramR g) (h0 : gramErr g = 0) {s : Int} (hi : inI64 s) (hs : isSym g s = true) (hy : Li y xy) (ly : y.length = g.nonterms.length) (my : ∀ H, lim G0.cfg (.func 50) [.agg (eGram g)] H = some (xy, H)) (p : s < 0) (hn : y.getD (nx s) (-1) < 0) (H : AHeap) : lim G0.cfg (.func 29) [.agg (eGram g), .int .i64 s] H = some (.tup [.agg [.int .i64 0, .int .i64 0, .nilS], .int .i64 27], H) := by
 refine lim_flat rfl rfl P_r20_Short 1 (fun h => fz_2 (fz_gram g h) rfl) ?_ (fun _ => rfl) H
 have rr := r_Right g hg.ok
 have rs := r_Symbol g hg.ok s
 rw [h0] at rr
 rw [hs] at rs
 have d0 : decide ((0 : Int) = 0) = true := rfl
 simp only [isSym,Bool.and_eq_true,decide_eq_true_eq] at hs
 have nt := hg.good.nt
 have lk : nx s < y.length := by unfold nx; omega
 have x1 := fun H => hy.ix H .i64 (nx s) lk
 have e1 : ((nx s : Nat) : Int) = -1 - s := by unfold nx; omega
 rw [e1, ← getD_get lk (-1)] at x1
 have w1 : IntKind.i64.wrap (-1 - s) = -1 - s := w64 (by omega) (by omega)
 rw [R_r20_Short]
 simp only [Zaa,Zab,Zac,Zad,Zai,Zaj,Zak,Zam,Zar,Zas,Zay,Zaz,Zba,Zbb,Zbg,Zbi,Zbj,Zbk,Zbl,Zbm,Zbn,Zbo,Zbp,Zbq,Zbr,Zcb,Zcm,Zcp,Zcq,Zcs,Zcu,Zcv,Zcw,Zcx,Zcy,Zcz,Zda,Q0,Q3,Q1,Q2,Option.bind_some,Option.map_some,Zdf,Zdh,Zdm,Zdr,Zdz,Zea,Zeb,decide_true,Bool.not_true,Z0,Z1,Q6,Q7,if_true,Nat.reduceAdd,Nat.reduceSub,Nat.reduceLeDiff,Int.reduceNeg,eq_self,and_self,true_and,Q6,Q7,Z2,Z3,Q4,Q5,aload,acells,getArr,part,eI,astore,putCells,List.all_cons,List.all_nil,cellOk,Bool.and_self,List.drop_zero,Z4,Z5,List.take_zero,List.take_nil,Q4,Q5,Q0,rr,rs,my,p,w1,x1,hn,afill,evp,fillCells,resAll,resVals,resVal,Option.some.injEq,Prod.mk.injEq,true_and,exists_eq']
end
end Go.Proofs.Ytkimloceaihplaa.Ai
