/- The reference's yields. -/
import Derived.Test.YtkimloceaihplaamTD
import Derived.Test.YtkimloceaihplaamGC
namespace Go.Proofs.Ytkimloceaihplaa.Ai
open Go Go.Proofs
open AV renaming junk → J
open List renaming getD_cons_zero → Q0, getD_cons_succ → Q1, set_cons_zero → Q2, set_cons_succ → Q3, length_cons → Q4, cons_append → Q5, length_nil → Q6, nil_append → Q7, replicate → Q8, replicate_succ → Q9, replicate_zero → Z0, length_map → Z1
open Option renaming map_some → Z2
set_option linter.unusedVariables false
set_option linter.unusedSimpArgs false
set_option maxRecDepth 10000
set_option maxHeartbeats 4000000
theorem am_min (a b : Int) : ammx false [.int .i64 a, .int .i64 b] = some (.int .i64 (min a b)) := by
 have : ammx false [.int .i64 a, .int .i64 b] = some (.int .i64 (if b < a then b else a)) := by simp [ammx, amm]
 rw [this]
 congr 2
 split <;> omega
theorem am_max (a b : Int) : ammx true [.int .i64 a, .int .i64 b] = some (.int .i64 (max a b)) := by
 have : ammx true [.int .i64 a, .int .i64 b] = some (.int .i64 (if a < b then b else a)) := by simp [ammx, amm]
 rw [this]
 congr 2
 split <;> omega
theorem getD_get {X : Type} {l : List X} {k : Nat} (hk : k < l.length) (d : X) : l.getD k d = l[k] := by simp [hk]
theorem run_sum {q y : List Int} {v w : AV} (hq : Li q v) (hy : Li y w) (hv : ∀ s ∈ q, -(y.length : Int) ≤ s ∧ s ≤ 1000000) (hm : q.length ≤ 1000) (hl : y.length ≤ 1000000) (yb : ∀ c ∈ y, -1 ≤ c ∧ c ≤ most) :
  ∃ h', runFn (lim G0.cfg) 2000 A_r17_sum [v, w] [] = some (.int .i64 (sumGo y q 0), h') := by
 have lq := hq.len
 have loop : ∀ (d i m : Nat) (a : Int), q.length = i + d → d < m → 0 ≤ a → a ≤ most → loopN (evalCode (lim G0.cfg) 2000 B_r17_sum_0) m ⟨[v, w, J,J,J, .int .i64 a, .int .i64 i, J,J,J,J,J,J,J,J,J,J,J,J,J,J,J,J,J,J,J,J,J,J,J,J,J,J,J], []⟩ = if sumGo y (q.drop i) a < 0 then some (.ret, ⟨[J,J,J,J, .int .i64 (-1), J,J,J,J,J,J,J,J,J,J,J,J,J,J,J,J,J,J,J,J,J,J,J,J,J,J,J,J,J], []⟩) else some (.exit 0, ⟨[J,J,J,J,J, .int .i64 (sumGo y (q.drop i) a), J,J,J,J,J,J,J,J,J,J,J,J,J,J,J,J,J,J,J,J,J,J,J,J,J,J,J,J], []⟩) := by
  intro d
  induction d with
  | zero =>
   intro i m a h1 h2 h3 h4
   obtain ⟨m, rfl⟩ : ∃ q, m = q + 1 := ⟨m - 1, by omega⟩
   have c : ¬ ((i : Int) < q.length) := by omega
   have q1 : q.drop i = [] := List.drop_eq_nil_iff.2 (by omega)
   rw [q1, sumGo, if_neg (by omega)]
   simp only [loop_e,EB_r17_sum_0,Zab,Zac,Zad,Zag,Zah,Zaj,Zak,Zal,Zas,Zav,Zay,Zbi,Zbk,Zbq,Zcg,Zcv,Zcx,Zdb,Zdc,Zdd,Q2,Q3,Q0,Q1,Zdh,decide_false,Int.reduceNeg,eq_self,lq,c]
  | succ d ih =>
   intro i m a h1 h2 h3 h4
   obtain ⟨m, rfl⟩ : ∃ q, m = q + 1 := ⟨m - 1, by omega⟩
   have c0 : i < q.length := by omega
   have c : (i : Int) < q.length := by omega
   have q1 : q.drop i = q[i] :: q.drop (i + 1) := List.drop_eq_getElem_cons c0
   have xq := fun h => hq.ix h .i64 i c0
   have hs := hv _ (List.getElem_mem c0)
   have hw := w64s (n := i) (by omega)
   obtain ⟨s, hse⟩ : ∃ s, s = q[i] := ⟨_, rfl⟩
   rw [← hse] at xq hs q1
   rw [q1, sumGo]
   have fm : most = 1000000 := rfl
   by_cases p : s < 0
   ·have k1 : (-1 - s).toNat < y.length := by omega
    have xy := fun h => hy.ix h .i64 (-1 - s).toNat k1
    have e1 : (((-1 - s).toNat : Nat) : Int) = -1 - s := by omega
    rw [e1] at xy
    have w1 : IntKind.i64.wrap (-1 - s) = -1 - s := w64 (by omega) (by omega)
    have ye : yk y s = y[(-1 - s).toNat] := by rw [yk_neg p]; exact getD_get k1 _
    have yr := yb _ (List.getElem_mem k1)
    rw [← ye] at xy yr
    by_cases z : yk y s < 0
    ·rw [if_pos z, if_pos (by omega)]
     simp only [loop_e,EB_r17_sum_0,Zaa,Zab,Zac,Zad,Zae,Zag,Zai,Zaj,Zak,Zam,Zao,Zar,Zaw,Zay,Zbi,Zbk,Zbo,Zbq,Zcb,Zcg,Zcv,Zcw,Zcx,Zdb,Zdc,Zdd,Q2,Q3,Q0,Q1,Zdf,Zdh,Zen,decide_true,Int.reduceNeg,eq_self,lq,c,xq,p,w1,xy,z]
    ·rw [if_neg z]
     have w2 : IntKind.i64.wrap (a + yk y s) = a + yk y s := w64 (by omega) (by omega)
     have ee := ih (i + 1) m (min (a + yk y s) 1000000) (by omega) (by omega) (by omega) (by omega)
     rw [← fm] at ee
     rw [← ee, fm]
     simp only [loop_e,EB_r17_sum_0,Zaa,Zab,Zac,Zad,Zae,Zag,Zaj,Zak,Zan,Zar,Zas,Zau,Zay,Zbi,Zbk,Zbo,Zbq,Zcb,Zcg,Zcl,Zcv,Zcw,Zcx,Zcz,Zda,Zdb,Zdc,Zdd,Q2,Q3,Q0,Q1,Zde,Zdf,Zdh,Zen,decide_true,decide_false,Int.reduceNeg,eq_self,lq,c,xq,p,w1,xy,z,w2,am_min,hw]
   ·have ye : yk y s = 1 := yk_pos (by omega)
    rw [ye, if_neg (by omega : ¬ (1 : Int) < 0)]
    have w2 : IntKind.i64.wrap (a + 1) = a + 1 := w64 (by omega) (by omega)
    have z1 : ¬ (1 : Int) < 0 := by omega
    have ee := ih (i + 1) m (min (a + 1) 1000000) (by omega) (by omega) (by omega) (by omega)
    rw [← fm] at ee
    rw [← ee, fm]
    simp only [loop_e,EB_r17_sum_0,Zaa,Zab,Zac,Zad,Zae,Zag,Zaj,Zak,Zan,Zar,Zas,Zau,Zay,Zbi,Zbk,Zbo,Zbq,Zcb,Zcg,Zcl,Zcv,Zcw,Zcx,Zcz,Zda,Zdb,Zdc,Zdd,Q2,Q3,Q0,Q1,Zde,Zdh,Zen,decide_true,decide_false,Int.reduceNeg,eq_self,lq,c,xq,p,z1,w2,am_min,hw]
 have e := loop q.length 0 2000 0 (by omega) (by omega) (Int.le_refl _) (by decide)
 rw [List.drop_zero, z0] at e
 rw [R_r17_sum]
 have rg := sumGo_rng (y := y) q 0 (Int.le_refl _) (by decide)
 by_cases p : sumGo y q 0 < 0
 ·rw [if_pos p] at e
  have : sumGo y q 0 = -1 := by omega
  rw [this]
  simp only [Zab,Zac,Zae,Zaf,Zag,Zaj,Zak,Zam,Zao,Zat,Zbi,Zbk,Zcu,Zcw,Zcx,Zdb,Zdc,Zdd,Q2,Q3,Q0,Q1,Z2,Q4,Q6,Nat.reduceAdd,Nat.reduceSub,Int.reduceNeg,eq_self,true_and,Q4,Q6,Q9,Z0,Q5,Q7,e,resAll,resVals,resVal,Option.some.injEq,Prod.mk.injEq,true_and,exists_eq']
 ·rw [if_neg p] at e
  simp only [Zab,Zac,Zae,Zaf,Zag,Zai,Zaj,Zak,Zap,Zat,Zbi,Zbk,Zcu,Zcv,Zcw,Zcx,Zdb,Zdc,Zdd,Q2,Q3,Q0,Q1,Z2,Q4,Q6,Nat.reduceAdd,Nat.reduceSub,eq_self,true_and,Q4,Q6,Q9,Z0,Q5,Q7,e,resAll,resVals,resVal,Option.some.injEq,Prod.mk.injEq,true_and,exists_eq']
section
variable {g : GramD}
theorem GramR.vr (hg : GramR g) : VR g.rules g.nonterms.length := fun r hr => by
 obtain ⟨h1, h2, h3, h4⟩ := hg.good.rule hr
 refine ⟨h1, h2, fun s hs => ?_⟩
 have := h4 s hs
 simp only [badSym,isSym,Bool.or_eq_false_iff,Bool.not_eq_false',Bool.and_eq_true,decide_eq_true_eq] at this
 omega
theorem GramR.sym (hg : GramR g) {r : RuleD} (hr : r ∈ g.rules) : r.right.length ≤ 32 ∧ ∀ s ∈ r.right, -(g.nonterms.length : Int) ≤ s ∧ s < 256 := by
 obtain ⟨h1, h2, h3, h4⟩ := hg.good.rule hr
 refine ⟨by omega, fun s hs => ?_⟩
 have := h4 s hs
 have tm := hg.good.tm
 simp only [badSym,isSym,Bool.or_eq_false_iff,Bool.not_eq_false',Bool.and_eq_true,decide_eq_true_eq] at this
 omega
theorem ld_g (h : AHeap) (e : h[0]? = some (.arr 0 5 true [eGram g])) : aload h 1 false (.ptr 0 0 0 1) = some (.vsl false (eSs g.nonterms)) ∧ aload h 1 false (.ptr 0 0 0 3) = some (.vsl false (g.rules.map eRule)) ∧ aload h 5 true (.ptr 0 0 0 0) = some (.agg (eGram g)) := by
 refine ⟨?_, ?_, ?_⟩
 ·rw [ld_p h 1 0 0 0 1 false 5 true _ _ e rfl]; rfl
 ·rw [ld_p h 1 0 0 0 3 false 5 true _ _ e rfl]; rfl
 ·rw [ld_p h 5 0 0 0 0 true 5 true _ _ e rfl]; rfl
theorem rule_f (r : RuleD) (h : AHeap) : aload h 1 false (.vptr (eRule r) 0) = some (.int .i64 r.left) ∧ aload h 1 false (.vptr (eRule r) 1) = some (.vsl false (eIs r.right)) ∧ aload h 5 true (.vptr (eRule r) 0) = some (.agg (eRule r)) := ⟨rfl, rfl, rfl⟩
theorem OwnG.getI {l : List Int} {v : AV} {h : AHeap} {q : Option Nat} (ho : OwnG 1 (eIs l) v h q) {j : Nat} (hj : j < l.length) : ∃ p, (∀ k : IntKind, aindexAddr h 1 v (.int k j) = some p) ∧ aload h 1 false p = some (.int .i64 l[j]) := ho.ix1 (by rw [eIs_getE l j hj])
theorem yields_2 (hg : GramR g) {w : AV} {iw : Nat} (hiw : 1 ≤ iw) (N : Nat) : ∀ (d i m : Nat) (y : List Int) (more : Bool) (h : AHeap), g.rules.length = i + d → d < m → h[0]? = some (.arr 0 5 true [eGram g]) → OwnG 1 (eIs y) w h (some iw) → YOk g.nonterms.length y →
  ∃ h', loopN (evalCode (lim G0.cfg) N B_r17_MinYields_2) m ⟨(J::.ptr 0 0 0 0::J::w::J::.bool more :: .int .i64 i::J::J::J::J::J::J::J::J::J::J::J::J::J::J::J::J::J::J::J::J::J::J::J::J::J::J::J::J::J::J::J::J::J::J::J::J::J::J::J::J::J::J::J::J::J::J::J::J::J::J::J::J::J::J::J::J::J::J::J::[]), h⟩ = some (.exit 4, ⟨(J::.ptr 0 0 0 0::J::w::J::.bool (roundU yUpd (g.rules.drop i) (y, more)).2::J::J::J::J::J::J::J::J::J::J::J::J::J::J::J::J::J::J::J::J::J::J::J::J::J::J::J::J::J::J::J::J::J::J::J::J::J::J::J::J::J::J::J::J::J::J::J::J::J::J::J::J::J::J::J::J::J::J::J::J::[]), h'⟩) ∧ h'[0]? = some (.arr 0 5 true [eGram g]) ∧ OwnG 1 (eIs (roundU yUpd (g.rules.drop i) (y, more)).1) w h' (some iw) ∧ YOk g.nonterms.length (roundU yUpd (g.rules.drop i) (y, more)).1 := by
 have hgl := hg.ok.rules
 rw [maxLen_eq] at hgl
 intro d
 induction d with
 | zero =>
  intro i m y more h h1 h2 e0 ow ok
  obtain ⟨m, rfl⟩ : ∃ q, m = q + 1 := ⟨m - 1, by omega⟩
  have c : ¬ ((i : Int) < g.rules.length) := by omega
  have q1 : g.rules.drop i = [] := List.drop_eq_nil_iff.2 (by omega)
  obtain ⟨l1, l2, l3⟩ := ld_g h e0
  rw [q1]
  refine ⟨h, ?_, e0, ow, ok⟩
  simp only [loop_e,EB_r17_MinYields_2,Zab,Zac,Zad,Zag,Zah,Zaj,Zak,Zal,Zas,Zav,Zay,Zbi,Zbk,Zbo,Zbq,Zby,Zcg,Zcv,Zcx,Zdb,Zdc,Zdd,Q2,Q3,Q0,Q1,Zdh,Zdt,Zdx,decide_false,Nat.reduceAdd,eq_self,Z1,l2,c,roundU,List.foldl_nil]
 | succ d ih =>
  intro i m y more h h1 h2 e0 ow ok
  obtain ⟨m, rfl⟩ : ∃ q, m = q + 1 := ⟨m - 1, by omega⟩
  have c0 : i < g.rules.length := by omega
  have c : (i : Int) < g.rules.length := by omega
  have q1 : g.rules.drop i = g.rules[i] :: g.rules.drop (i + 1) := List.drop_eq_getElem_cons c0
  obtain ⟨l1, l2, l3⟩ := ld_g h e0
  have hw := w64s (n := i) (by omega)
  have ir := fun h => ix_map eRule h 5 false g.rules .i64 i c0 rfl
  have mem := List.getElem_mem c0
  obtain ⟨r, hr⟩ : ∃ r, r = g.rules[i] := ⟨_, rfl⟩
  rw [← hr] at ir mem q1
  have rf := rule_f r
  obtain ⟨v1, v2, v3⟩ := hg.vr r mem
  obtain ⟨s1, s2⟩ := hg.sym mem
  have nt := hg.good.nt
  have li : r.left.toNat < y.length := by rw [ok.len]; omega
  obtain ⟨x, b, fx, gx⟩ := fzI ow 998
  obtain ⟨hs, rs⟩ := run_sum (li_vsl false r.right) gx (fun s hs => by have := s2 s hs; rw [ok.len]; omega) (by omega) (by rw [ok.len]; omega) (fun c hc => by have := ok.rng c hc; simp only [most] at *; omega)
  have sm : lim G0.cfg (.func 80) [.vsl false (eIs r.right), w] h = some (.int .i64 (sumGo y r.right 0), h) := lim_fz rfl rfl P_r17_sum 2000 (mapO_2 (rfl : freeze h 1000 (.vsl false (eIs r.right)) = some (.vsl false (eIs r.right), true)) fx) rs (rfl : freeze hs 1000 (.int .i64 _) = some (.int .i64 _, true)) (Bool.or_true _)
  obtain ⟨p, p1, p2⟩ := ow.getI li
  have e1 : ((r.left.toNat : Nat) : Int) = r.left := by omega
  rw [e1] at p1
  have gd : y.getD r.left.toNat (-1) = y[r.left.toNat] := getD_get li _
  rw [← gd] at p2
  obtain ⟨S, hS⟩ : ∃ S, S = sumGo y r.right 0 := ⟨_, rfl⟩
  obtain ⟨old, hold⟩ : ∃ o, o = y.getD r.left.toNat (-1) := ⟨_, rfl⟩
  rw [← hS] at sm
  rw [← hold] at p2
  rw [q1, roundU_cons]
  by_cases up : 0 ≤ S ∧ (old < 0 ∨ S < old)
  ·have eu : yUpd y r = some (y.set r.left.toNat S) := by unfold yUpd; rw [← hS, ← hold, if_pos up]
   obtain ⟨ok', _⟩ := yUpd_ok hg.vr mem ok eu
   obtain ⟨i2, p3, H2, qe, x2, st, ow2, fr, ln⟩ := ow.putI li S
   cases qe
   rw [e1] at x2
   obtain rfl : p = p3 := Option.some.inj ((p1 .i64).symm.trans (x2 .i64))
   obtain ⟨h', k1, k2, k3, k4⟩ := ih (i + 1) m (y.set r.left.toNat S) true H2 (by omega) (by omega) (fr 0 _ e0 (by omega)) ow2 ok'
   simp only [eu]
   refine ⟨h', ?_, k2, k3, k4⟩
   rw [← k1]
   by_cases o : old < 0
   ·simp only [loop_e,EB_r17_MinYields_2,Zaa,Zab,Zac,Zad,Zae,Zag,Zaj,Zak,Zan,Zar,Zau,Zay,Zaz,Zba,Zbb,Zbd,Zbg,Zbi,Zbj,Zbk,Zbl,Zbo,Zbp,Zbq,Zby,Zcb,Zcg,Zcp,Zcq,Zcv,Zcw,Zcx,Zcy,Zcz,Zda,Zdb,Zdc,Zdd,Q2,Q3,Q0,Q1,Zde,Zdh,Zdk,Zdt,Zdx,Zdy,decide_true,Nat.reduceAdd,eq_self,Z1,Q5,Q7,l2,c,ir,rf,sm,up.1,p1,p2,o,st,hw]
   ·have o2 : S < old := by omega
    simp only [loop_e,EB_r17_MinYields_2,Zaa,Zab,Zac,Zad,Zae,Zag,Zaj,Zak,Zan,Zar,Zau,Zay,Zaz,Zba,Zbb,Zbc,Zbg,Zbh,Zbi,Zbj,Zbk,Zbl,Zbo,Zbp,Zbq,Zby,Zcb,Zcg,Zcp,Zcq,Zcv,Zcw,Zcx,Zcy,Zcz,Zda,Zdb,Zdc,Zdd,Q2,Q3,Q0,Q1,Zde,Zdh,Zdk,Zdt,Zdx,Zdy,decide_true,decide_false,Nat.reduceAdd,eq_self,Z1,Q5,Q7,l2,c,ir,rf,sm,up.1,p1,p2,o,o2,st,hw]
  ·have eu : yUpd y r = none := by unfold yUpd; rw [← hS, ← hold, if_neg up]
   obtain ⟨h', k1, k2, k3, k4⟩ := ih (i + 1) m y more h (by omega) (by omega) e0 ow ok
   simp only [eu]
   refine ⟨h', ?_, k2, k3, k4⟩
   rw [← k1]
   by_cases o0 : 0 ≤ S
   ·have o : ¬ old < 0 := by omega
    have o2 : ¬ S < old := by omega
    simp only [loop_e,EB_r17_MinYields_2,Zaa,Zab,Zac,Zad,Zae,Zag,Zaj,Zak,Zan,Zar,Zas,Zau,Zay,Zaz,Zbb,Zbc,Zbg,Zbh,Zbi,Zbj,Zbk,Zbl,Zbo,Zbq,Zby,Zcb,Zcg,Zcp,Zcq,Zcv,Zcw,Zcx,Zcz,Zda,Zdb,Zdc,Zdd,Q2,Q3,Q0,Q1,Zde,Zdh,Zdk,Zdt,Zdx,Zdy,decide_true,decide_false,Nat.reduceAdd,eq_self,Z1,Q5,Q7,l2,c,ir,rf,sm,o0,p1,p2,o,o2,hw]
   ·simp only [loop_e,EB_r17_MinYields_2,Zaa,Zab,Zac,Zad,Zae,Zag,Zaj,Zak,Zan,Zar,Zas,Zau,Zay,Zaz,Zbe,Zbf,Zbh,Zbi,Zbj,Zbk,Zbl,Zbo,Zbq,Zby,Zcb,Zcg,Zcp,Zcq,Zcv,Zcw,Zcx,Zcz,Zda,Zdb,Zdc,Zdd,Q2,Q3,Q0,Q1,Zde,Zdh,Zdk,Zdt,Zdx,Zdy,decide_true,decide_false,Nat.reduceAdd,eq_self,Z1,Q5,Q7,l2,c,ir,rf,sm,o0,hw]
theorem yields_1 (hg : GramR g) {w : AV} {iw : Nat} (hiw : 1 ≤ iw) (N : Nat) (hN : g.rules.length < N) : ∀ (k m : Nat) (y Y : List Int) (h : AHeap), Steps yUpd g.rules k y Y → k + 1 < m → h[0]? = some (.arr 0 5 true [eGram g]) → OwnG 1 (eIs y) w h (some iw) → YOk g.nonterms.length y →
  ∃ h', loopN (evalCode (lim G0.cfg) N B_r17_MinYields_1) m ⟨(J::.ptr 0 0 0 0::J::w::J::.bool true::J::J::J::J::J::J::J::J::J::J::J::J::J::J::J::J::J::J::J::J::J::J::J::J::J::J::J::J::J::J::J::J::J::J::J::J::J::J::J::J::J::J::J::J::J::J::J::J::J::J::J::J::J::J::J::J::J::J::J::J::[]), h⟩ = some (.exit 2, ⟨(J::J::J::w::J::J::J::J::J::J::J::J::J::J::J::J::J::J::J::J::J::J::J::J::J::J::J::J::J::J::J::J::J::J::J::J::J::J::J::J::J::J::J::J::J::J::J::J::J::J::J::J::J::J::J::J::J::J::J::J::J::J::J::J::J::J::[]), h'⟩) ∧ OwnG 1 (eIs Y) w h' (some iw) := by
 intro k
 induction k with
 | zero =>
  intro m y Y h hs h1 e0 ow ok
  obtain ⟨m, rfl⟩ : ∃ q, m = q + 2 := ⟨m - 2, by omega⟩
  obtain ⟨h', k1, k2, k3, k4⟩ := yields_2 hg hiw N g.rules.length 0 N y false h (by omega) hN e0 ow ok
  rw [List.drop_zero] at k1 k3
  rw [hs.1, z0] at k1
  rw [(roundU_same yUpd g.rules y hs.1).2] at k3
  rw [hs.2]
  refine ⟨h', ?_, k3⟩
  simp only [loop_e,EB_r17_MinYields_1,Zaa,Zab,Zac,Zad,Zae,Zaf,Zag,Zah,Zaj,Zak,Zal,Zan,Zap,Zar,Zas,Zat,Zau,Zav,Zbi,Zbk,Zcv,Zcw,Zcx,Zdb,Zdc,Zdd,Q2,Q3,Q0,Q1,eq_self,k1]
 | succ k ih =>
  intro m y Y h hs h1 e0 ow ok
  obtain ⟨m, rfl⟩ : ∃ q, m = q + 1 := ⟨m - 1, by omega⟩
  obtain ⟨h', k1, k2, k3, k4⟩ := yields_2 hg hiw N g.rules.length 0 N y false h (by omega) hN e0 ow ok
  rw [List.drop_zero] at k1 k3 k4
  rw [hs.1, z0] at k1
  obtain ⟨h2, j1, j2⟩ := ih m _ Y h' hs.2 (by omega) k2 k3 k4
  refine ⟨h2, ?_, j2⟩
  rw [← j1]
  simp only [loop_e,EB_r17_MinYields_1,Zaa,Zab,Zac,Zad,Zae,Zaf,Zag,Zaj,Zak,Zan,Zap,Zar,Zat,Zau,Zbi,Zbk,Zcv,Zcw,Zcx,Zdb,Zdc,Zdd,Q2,Q3,Q0,Q1,eq_self,k1]
theorem yields_0 (hg : GramR g) (N : Nat) : ∀ (d i m : Nat) (h : AHeap) (w : AV) (q : Option Nat), g.nonterms.length = i + d → d < m → h[0]? = some (.arr 0 5 true [eGram g]) → OwnG 1 (eIs (Q8 i (-1))) w h q → (∀ j, q = some j → 1 ≤ j) →
  ∃ h' w' q', loopN (evalCode (lim G0.cfg) N B_r17_MinYields_0) m ⟨(J::.ptr 0 0 0 0::J::w :: .int .i64 i::J::J::J::J::J::J::J::J::J::J::J::J::J::J::J::J::J::J::J::J::J::J::J::J::J::J::J::J::J::J::J::J::J::J::J::J::J::J::J::J::J::J::J::J::J::J::J::J::J::J::J::J::J::J::J::J::J::J::J::J::J::[]), h⟩ = some (.exit 0, ⟨(J::.ptr 0 0 0 0::J::w'::J::J::J::J::J::J::J::J::J::J::J::J::J::J::J::J::J::J::J::J::J::J::J::J::J::J::J::J::J::J::J::J::J::J::J::J::J::J::J::J::J::J::J::J::J::J::J::J::J::J::J::J::J::J::J::J::J::J::J::J::J::J::[]), h'⟩) ∧ h'[0]? = some (.arr 0 5 true [eGram g]) ∧ OwnG 1 (eIs (Q8 g.nonterms.length (-1))) w' h' q' ∧ (∀ j, q' = some j → 1 ≤ j) := by
 have nt := hg.good.nt
 intro d
 induction d with
 | zero =>
  intro i m h w q h1 h2 e0 ow tq
  obtain ⟨m, rfl⟩ : ∃ q, m = q + 1 := ⟨m - 1, by omega⟩
  have c : ¬ ((i : Int) < g.nonterms.length) := by omega
  obtain ⟨l1, l2, l3⟩ := ld_g h e0
  refine ⟨h, w, q, ?_, e0, by rw [h1]; exact ow, tq⟩
  simp only [loop_e,EB_r17_MinYields_0,Zab,Zac,Zad,Zag,Zah,Zaj,Zak,Zal,Zas,Zav,Zay,Zbi,Zbk,Zbo,Zbq,Zby,Zcg,Zcv,Zcx,Zdb,Zdc,Zdd,Q2,Q3,Q0,Q1,Zdh,Zdt,Zdx,Zeq,decide_false,Nat.reduceAdd,Int.reduceNeg,eq_self,l1,c]
 | succ d ih =>
  intro i m h w q h1 h2 e0 ow tq
  obtain ⟨m, rfl⟩ : ∃ q, m = q + 1 := ⟨m - 1, by omega⟩
  have c : (i : Int) < g.nonterms.length := by omega
  obtain ⟨l1, l2, l3⟩ := ld_g h e0
  have hw := w64s (n := i) (by omega)
  obtain ⟨i2, ver, H1, r1, r2, r3, r4, r5⟩ := ow.push true (c := [.int .i64 (-1)]) rfl rfl (eIs_all _) 8 (by omega) (by rw [Zep]; simp; omega)
  rw [Zep, List.length_replicate] at r1 r2
  have e1 : eIs (Q8 i (-1)) ++ [[.int .i64 (-1)]] = eIs (Q8 (i + 1) (-1)) := by
   rw [List.replicate_succ', eIs_append]; rfl
  rw [e1] at r2
  obtain ⟨vv, hvv⟩ : ∃ x, x = AV.hsl i2 ver 0 (i + 1) none := ⟨_, rfl⟩
  rw [← hvv] at r1 r2
  have lt0 := get_len e0
  obtain ⟨h', w', q', k1, k2, k3, k4⟩ := ih (i + 1) m H1 vv (some i2) (by omega) (by omega) (r3 0 _ e0 (fun f => by have := tq 0 f; omega)) r2 (fun j f => by cases f; rcases r4 with u | ⟨_, u⟩; exact tq _ u; omega)
  refine ⟨h', w', q', ?_, k2, k3, k4⟩
  rw [← k1]
  have lt2 := fun h : AHeap => lit1' h (.int .i64 0) (.int .i64 (-1)) rfl rfl
  simp only [loop_e,EB_r17_MinYields_0,Zaa,Zab,Zac,Zad,Zae,Zag,Zaj,Zak,Zan,Zar,Zau,Zay,Zaz,Zbi,Zbk,Zbo,Zbq,Zby,Zcg,Zci,Zcn,Zcv,Zcw,Zcx,Zdb,Zdc,Zdd,Q2,Q3,Q0,Q1,Zde,Zdh,Zdt,Zdx,Zeq,decide_true,Nat.reduceAdd,Int.reduceNeg,eq_self,l1,c,ev2,lt2,r1,hw]
theorem r_MinYields (hg : GramR g) (h0 : gramErr g = 0) : ∃ (y : List Int) (x : AV), (∃ k, Steps yUpd g.rules k (Q8 g.nonterms.length (-1)) y) ∧ Li y x ∧ ∀ H, lim G0.cfg (.func 50) [.agg (eGram g)] H = some (x, H) := by
 obtain ⟨k, y, hk⟩ := yields_ex hg.vr
 have nt := hg.good.nt
 have yok0 : YOk g.nonterms.length (Q8 g.nonterms.length (-1)) := ⟨by simp, fun c hc => .inl (List.eq_of_mem_replicate hc)⟩
 obtain ⟨N, hN⟩ : ∃ N, N = k + g.rules.length + 2000 := ⟨_, rfl⟩
 obtain ⟨h1, w1, q1, e1, e0, ow, tq⟩ := yields_0 hg N g.nonterms.length 0 N [.arr 0 5 true [eGram g]] .nilS none (by omega) (by omega) rfl (OwnG.nil 1 _) (fun _ e => by cases e)
 rw [z0] at e1
 have npos : 0 < g.nonterms.length := by
  obtain ⟨x, s, hx, _⟩ := hg.good.zero
  have := (hg.good.rule (List.mem_of_getElem? hx))
  omega
 obtain ⟨iw, hq⟩ : ∃ iw, q1 = some iw := by
  rcases ow with ⟨a, _, _⟩ | ⟨_, i, ver, hq, _⟩
  ·have := congrArg List.length a
   rw [Zep, List.length_replicate] at this
   have e : ([] : List (List AV)).length = 0 := rfl
   omega
  ·exact ⟨i, hq⟩
 subst hq
 obtain ⟨h2, e2, ow2⟩ := yields_1 hg (tq iw rfl) N (by omega) k N _ y h1 hk (by omega) e0 ow yok0
 obtain ⟨x, c, f1, g1⟩ := fzI ow2 998
 refine ⟨y, x, ⟨k, hk⟩, g1, fun H => lim_at rfl rfl P_r17_MinYields N (fun h => fz_1 (fz_gram g h)) ?_ f1 H⟩
 have rr := r_Right g hg.ok
 rw [h0] at rr
 obtain ⟨l1, l2, l3⟩ := ld_g (g := g) [.arr 0 5 true [eGram g]] rfl
 have d0 : decide ((0 : Int) = 0) = true := rfl
 rw [R_r17_MinYields]
 simp only [Zaa,Zab,Zac,Zad,Zae,Zaf,Zag,Zai,Zaj,Zak,Zap,Zas,Zat,Zay,Zaz,Zbi,Zbk,Zbn,Zbo,Zbq,Zcp,Zcq,Zcs,Zcu,Zcv,Zcw,Zcx,Zcz,Zda,Zdb,Zdc,Zdd,Q2,Q3,Q0,Q1,Z2,Zdm,Zeb,decide_true,Bool.not_true,Q4,Q6,if_true,Nat.reduceAdd,Nat.reduceSub,eq_self,Q4,Q6,Q9,Z0,Q5,Q7,l3,rr,e1,e2,resAll,resVals,resVal]
theorem r_MinYields_bad (g : GramD) (hg : g.Ok) (h0 : gramErr g ≠ 0) (H : AHeap) : lim G0.cfg (.func 50) [.agg (eGram g)] H = some (.nilS, H) := by
 refine lim_flat rfl rfl P_r17_MinYields 1 (fun h => fz_1 (fz_gram g h)) ?_ (fun _ => rfl) H
 have rr := r_Right g hg
 obtain ⟨l1, l2, l3⟩ := ld_g (g := g) [.arr 0 5 true [eGram g]] rfl
 have d0 : decide (gramErr g = 0) = false := decide_eq_false h0
 rw [R_r17_MinYields]
 simp only [Zab,Zac,Zad,Zai,Zaj,Zak,Zam,Zar,Zay,Zaz,Zbi,Zbk,Zbn,Zbo,Zbq,Zcp,Zcq,Zcs,Zcu,Zcv,Zcw,Zcx,Zcz,Zda,Q2,Q3,Q0,Q1,Z2,Zdm,Zeb,Bool.not_false,Q4,Q6,if_true,Nat.reduceAdd,Nat.reduceSub,eq_self,true_and,Q4,Q6,Q9,Z0,Q5,Q7,l3,rr,d0,resAll,resVals,resVal,Option.some.injEq,Prod.mk.injEq,true_and,exists_eq']
end
end Go.Proofs.Ytkimloceaihplaa.Ai
namespace Go.Proofs.Ytkimloceaihplaa.Ai
open Go Go.Proofs
open AV renaming junk → J
open List renaming getD_cons_zero → Q0, getD_cons_succ → Q1, set_cons_zero → Q2, set_cons_succ → Q3, length_cons → Q4, cons_append → Q5, length_nil → Q6, nil_append → Q7, replicate_succ → Q8, replicate_zero → Q9, length_map → Z0, replicate → Z2
open Option renaming map_some → Z1
set_option linter.unusedVariables false
set_option linter.unusedSimpArgs false
set_option maxRecDepth 10000
set_option maxHeartbeats 4000000
section
variable {g : GramD}
theorem run_height (hg : GramR g) {y h : List Int} {xy xh : AV} (hy : Li y xy) (hh : Li h xh) (ly : y.length = g.nonterms.length) (lh : h.length = g.nonterms.length) (yb : ∀ c ∈ y, -1 ≤ c ∧ c ≤ most) (hb : ∀ c ∈ h, 0 ≤ c ∧ c ≤ 10000) (k : Nat) (hk : k < g.rules.length) :
  ∃ h', runFn (lim G0.cfg) 2000 A_r20_height [.agg (eGram g), .int .i64 k, xy, xh] [] = some (.int .i64 (heightD y h g.rules[k]), h') := by
 have mem := List.getElem_mem hk
 have ir := fun h => ix_map eRule h 5 false g.rules .i64 k hk rfl
 obtain ⟨r, hr⟩ : ∃ r, r = g.rules[k] := ⟨_, rfl⟩
 rw [← hr] at ir mem ⊢
 have rf := rule_f r
 obtain ⟨v1, v2, v3⟩ := hg.vr r mem
 obtain ⟨s1, s2⟩ := hg.sym mem
 have nt := hg.good.nt
 have fm : most = 1000000 := rfl
 obtain ⟨H, hH⟩ : ∃ H : AHeap, H = [.arr 0 5 true [eGram g], .arr 0 5 true [eRule r]] := ⟨_, rfl⟩
 have q0 : aload H 1 false (.ptr 1 0 0 0) = some (.int .i64 r.left) := by rw [hH, ld_p _ 1 1 0 0 0 false 5 true _ (eRule r) rfl rfl]; rfl
 have q1 : aload H 1 false (.ptr 1 0 0 1) = some (.vsl false (eIs r.right)) := by rw [hH, ld_p _ 1 1 0 0 1 false 5 true _ (eRule r) rfl rfl]; rfl
 have lq := (li_vsl false r.right).len
 have loop : ∀ (d i m : Nat) (n a : Int), r.right.length = i + d → d < m → 1 ≤ n → n ≤ 20000 → 0 ≤ a → a ≤ 1000000 + i → loopN (evalCode (lim G0.cfg) 2000 B_r20_height_0) m ⟨(J::J::xy :: xh::J::J::J::J::J::.ptr 1 0 0 0 :: .int .i64 n :: .int .i64 a :: .int .i64 i::J::J::J::J::J::J::J::J::J::J::J::J::J::J::J::J::J::J::J::J::J::J::J::J::J::J::J::J::J::J::J::J::J::J::J::J::J::J::J::J::J::J::J::J::J::J::J::J::J::J::J::J::J::J::J::J::J::J::J::J::J::J::[]), H⟩ =
   match hGo y h (r.right.drop i) n a with
   | none => some (.ret, ⟨(J::J::J::J::J::J::J::J::.int .i64 0::J::J::J::J::J::J::J::J::J::J::J::J::J::J::J::J::J::J::J::J::J::J::J::J::J::J::J::J::J::J::J::J::J::J::J::J::J::J::J::J::J::J::J::J::J::J::J::J::J::J::J::J::J::J::J::J::J::J::J::J::J::J::J::J::J::J::[]), H⟩)
   | some (n', a') => some (.exit 0, ⟨(J::J::xy::J::J::J::J::J::J::.ptr 1 0 0 0 :: .int .i64 n' :: .int .i64 a'::J::J::J::J::J::J::J::J::J::J::J::J::J::J::J::J::J::J::J::J::J::J::J::J::J::J::J::J::J::J::J::J::J::J::J::J::J::J::J::J::J::J::J::J::J::J::J::J::J::J::J::J::J::J::J::J::J::J::J::J::J::J::J::[]), H⟩) := by
  intro d
  induction d with
  | zero =>
   intro i m n a h1 h2 h3 h4 h5 h6
   obtain ⟨m, rfl⟩ : ∃ q, m = q + 1 := ⟨m - 1, by omega⟩
   have c : ¬ ((i : Int) < r.right.length) := by omega
   have e : r.right.drop i = [] := List.drop_eq_nil_iff.2 (by omega)
   rw [e, hGo]
   simp only [loop_e,EB_r20_height_0,Zab,Zac,Zad,Zag,Zah,Zaj,Zak,Zal,Zas,Zav,Zay,Zbi,Zbk,Zbo,Zbq,Zby,Zcg,Zcv,Zcx,Zdb,Zdc,Zdd,Q2,Q3,Q0,Q1,Zdh,Zdx,decide_false,Nat.reduceAdd,Int.reduceNeg,eq_self,q1,lq,c]
  | succ d ih =>
   intro i m n a h1 h2 h3 h4 h5 h6
   obtain ⟨m, rfl⟩ : ∃ q, m = q + 1 := ⟨m - 1, by omega⟩
   have c0 : i < r.right.length := by omega
   have c : (i : Int) < r.right.length := by omega
   have e : r.right.drop i = r.right[i] :: r.right.drop (i + 1) := List.drop_eq_getElem_cons c0
   have xq := fun h => (li_vsl false r.right).ix h .i64 i c0
   have hs := s2 _ (List.getElem_mem c0)
   have hw := w64s (n := i) (by omega)
   obtain ⟨s, hse⟩ : ∃ s, s = r.right[i] := ⟨_, rfl⟩
   rw [← hse] at xq hs e
   rw [e, hGo]
   by_cases p : 0 ≤ s
   ·have w2 : IntKind.i64.wrap (a + 1) = a + 1 := w64 (by omega) (by omega)
    rw [if_pos p, ← ih (i + 1) m n (a + 1) (by omega) (by omega) h3 h4 (by omega) (by omega)]
    simp only [loop_e,EB_r20_height_0,Zaa,Zab,Zac,Zad,Zae,Zag,Zah,Zaj,Zak,Zal,Zap,Zar,Zau,Zay,Zbi,Zbk,Zbo,Zbq,Zby,Zcb,Zcg,Zcv,Zcw,Zcx,Zdb,Zdc,Zdd,Q2,Q3,Q0,Q1,Zde,Zdh,Zdk,Zdx,Zen,decide_true,Nat.reduceAdd,Int.reduceNeg,eq_self,q1,lq,c,xq,p,w2,hw]
   ·rw [if_neg p]
    have k1 : (-1 - s).toNat < y.length := by omega
    have k2 : (-1 - s).toNat < h.length := by omega
    have x1 := fun H => hy.ix H .i64 (-1 - s).toNat k1
    have x2 := fun H => hh.ix H .i64 (-1 - s).toNat k2
    have e1 : (((-1 - s).toNat : Nat) : Int) = -1 - s := by omega
    rw [e1, ← getD_get k1 (-1)] at x1
    rw [e1, ← getD_get k2 0] at x2
    have yr := yb _ (getD_in y _ (-1) k1)
    have hr' := hb _ (getD_in h _ 0 k2)
    obtain ⟨Y, hY⟩ : ∃ Y, Y = y.getD (-1 - s).toNat (-1) := ⟨_, rfl⟩
    obtain ⟨Z, hZ⟩ : ∃ Z, Z = h.getD (-1 - s).toNat 0 := ⟨_, rfl⟩
    rw [← hY] at x1 yr ⊢
    rw [← hZ] at x2 hr' ⊢
    have w1 : IntKind.i64.wrap (-1 - s) = -1 - s := w64 (by omega) (by omega)
    by_cases z : Y < 0
    ·rw [if_pos (.inl z)]
     simp only [loop_e,EB_r20_height_0,Zaa,Zab,Zac,Zad,Zae,Zag,Zai,Zaj,Zak,Zam,Zao,Zar,Zas,Zaw,Zay,Zbd,Zbg,Zbi,Zbj,Zbk,Zbl,Zbo,Zbq,Zby,Zcb,Zcg,Zcv,Zcw,Zcx,Zdb,Zdc,Zdd,Q2,Q3,Q0,Q1,Zdf,Zdh,Zdk,Zdx,Zen,decide_true,decide_false,Nat.reduceAdd,Int.reduceNeg,eq_self,q1,lq,c,xq,p,w1,x1,z]
    ·by_cases z2 : Z = 0
     ·have dz : decide (Z = 0) = true := decide_eq_true z2
      rw [if_pos (.inr z2)]
      simp only [loop_e,EB_r20_height_0,Zaa,Zab,Zac,Zad,Zae,Zag,Zai,Zaj,Zak,Zam,Zao,Zar,Zas,Zaw,Zay,Zbc,Zbh,Zbi,Zbj,Zbk,Zbl,Zbo,Zbq,Zby,Zcb,Zcg,Zcv,Zcw,Zcx,Zdb,Zdc,Zdd,Q2,Q3,Q0,Q1,Zdf,Zdh,Zdk,Zdl,Zdx,Zen,decide_true,decide_false,Nat.reduceAdd,Int.reduceNeg,eq_self,q1,lq,c,xq,p,w1,x1,z,x2,dz]
     ·have dz : decide (Z = 0) = false := decide_eq_false z2
      rw [if_neg (by omega)]
      have w2 : IntKind.i64.wrap (a + Y) = a + Y := w64 (by omega) (by omega)
      have w3 : IntKind.i64.wrap (Z + 1) = Z + 1 := w64 (by omega) (by omega)
      rw [fm, ← ih (i + 1) m (max n (Z + 1)) (min (a + Y) 1000000) (by omega) (by omega) (by omega) (by omega) (by omega) (by omega)]
      simp only [loop_e,EB_r20_height_0,Zaa,Zab,Zac,Zad,Zae,Zag,Zaj,Zak,Zan,Zar,Zas,Zau,Zay,Zbc,Zbh,Zbi,Zbj,Zbk,Zbl,Zbo,Zbq,Zby,Zcb,Zcg,Zcl,Zcv,Zcw,Zcx,Zcz,Zda,Zdb,Zdc,Zdd,Q2,Q3,Q0,Q1,Zde,Zdf,Zdh,Zdk,Zdl,Zdx,Zen,decide_true,decide_false,Nat.reduceAdd,Int.reduceNeg,eq_self,q1,lq,c,xq,p,w1,x1,z,x2,dz,w2,w3,am_min,am_max,hw]
 have e := loop r.right.length 0 2000 1 0 (by omega) (by omega) (Int.le_refl _) (by decide) (Int.le_refl _) (by omega)
 rw [List.drop_zero, z0, hH] at e
 rw [hH] at q0
 have li : r.left.toNat < y.length := by omega
 have xl := fun H => hy.ix H .i64 r.left.toNat li
 have e1 : ((r.left.toNat : Nat) : Int) = r.left := by omega
 rw [e1, ← getD_get li (-1)] at xl
 obtain ⟨l1, l2, l3⟩ := ld_g (g := g) [.arr 0 5 true [eGram g]] rfl
 have st : astore [.arr 0 5 true [eGram g], .arr 0 5 true [[.int .i64 0, .nilS, .nilS, .str [], .int .i64 0]]] 5 (.ptr 1 0 0 0) (.agg (eRule r)) = some [.arr 0 5 true [eGram g], .arr 0 5 true [eRule r]] := by
  simp [astore, putCells, getArr, cellsOf, cellOk]
 rw [R_r20_height]
 unfold heightD
 cases hg2 : hGo y h r.right 1 0 with
 | none =>
  rw [hg2] at e
  simp only at e
  simp only [Zab,Zac,Zae,Zaf,Zag,Zaj,Zak,Zam,Zao,Zat,Zay,Zaz,Zba,Zbi,Zbk,Zbm,Zbn,Zbo,Zbp,Zby,Zcb,Zcs,Zcu,Zcv,Zcw,Zcx,Zcy,Zdb,Zdc,Zdd,Q2,Q3,Q0,Q1,Z1,Zdx,Zeb,Q4,Q6,if_true,Nat.reduceAdd,Nat.reduceSub,eq_self,true_and,Q4,Q6,Q8,Q9,Q5,Q7,l2,ir,rf,st,e,resAll,resVals,resVal,Option.some.injEq,Prod.mk.injEq,true_and,exists_eq']
 | some c =>
  obtain ⟨n, a⟩ := c
  rw [hg2] at e
  simp only at e
  simp only
  by_cases z : min a most = y.getD r.left.toNat (-1)
  ·have dz : decide (min a 1000000 = y.getD r.left.toNat (-1)) = true := decide_eq_true z
   rw [if_neg (fun k => k z)]
   simp only [Zaa,Zab,Zac,Zad,Zae,Zaf,Zag,Zai,Zaj,Zak,Zap,Zas,Zat,Zay,Zaz,Zba,Zbi,Zbk,Zbm,Zbn,Zbo,Zbp,Zbq,Zby,Zcb,Zcl,Zcs,Zcu,Zcv,Zcw,Zcx,Zcy,Zcz,Zda,Zdb,Zdc,Zdd,Q2,Q3,Q0,Q1,Z1,Zdm,Zdx,Zeb,Zen,Bool.not_true,Q4,Q6,if_true,Nat.reduceAdd,Nat.reduceSub,Int.reduceNeg,eq_self,true_and,Q4,Q6,Q8,Q9,Q5,Q7,l2,ir,rf,st,e,am_min,q0,xl,dz,resAll,resVals,resVal,Option.some.injEq,Prod.mk.injEq,true_and,exists_eq']
  ·have dz : decide (min a 1000000 = y.getD r.left.toNat (-1)) = false := decide_eq_false z
   rw [if_pos z]
   simp only [Zab,Zac,Zad,Zae,Zaf,Zag,Zai,Zaj,Zak,Zam,Zap,Zar,Zat,Zay,Zaz,Zba,Zbi,Zbk,Zbm,Zbn,Zbo,Zbp,Zbq,Zby,Zcb,Zcl,Zcs,Zcu,Zcv,Zcw,Zcx,Zcy,Zcz,Zda,Zdb,Zdc,Zdd,Q2,Q3,Q0,Q1,Z1,Zdm,Zdx,Zeb,Zen,Bool.not_false,Q4,Q6,if_true,Nat.reduceAdd,Nat.reduceSub,Int.reduceNeg,eq_self,true_and,Q4,Q6,Q8,Q9,Q5,Q7,l2,ir,rf,st,e,am_min,q0,xl,dz,resAll,resVals,resVal,Option.some.injEq,Prod.mk.injEq,true_and,exists_eq']
theorem HOk.small {n : Nat} {h : List Int} (ok : HOk n h) (hn : n ≤ 512) : ∀ c ∈ h, 0 ≤ c ∧ c ≤ 10000 := fun c hc => by have := ok.rng c hc; omega
theorem heights_1 (hg : GramR g) {y : List Int} {xy : AV} (hy : Li y xy) (ly : y.length = g.nonterms.length) (yb : ∀ c ∈ y, -1 ≤ c ∧ c ≤ most) (N : Nat) : ∀ (d i m : Nat) (hs : List Int) (more : Bool) (h : AHeap), g.rules.length = i + d → d < m → h[0]? = some (.arr 0 5 true [eGram g]) → h[1]? = some (.arr 0 1 true (eIs hs)) → HOk g.nonterms.length hs →
  ∃ h', loopN (evalCode (lim G0.cfg) N B_r20_Heights_1) m ⟨(J::.ptr 0 0 0 0::J::xy :: .hsl 1 0 0 g.nonterms.length none :: .bool more :: .int .i64 i::J::J::J::J::J::J::J::J::J::J::J::J::J::J::J::J::J::J::J::J::J::J::J::J::J::J::J::J::J::J::J::J::J::J::J::J::J::J::J::J::J::J::J::J::J::J::J::J::J::[]), h⟩ = some (.exit 2, ⟨(J::.ptr 0 0 0 0::J::xy :: .hsl 1 0 0 g.nonterms.length none :: .bool (roundU (hUpd y) (g.rules.drop i) (hs, more)).2::J::J::J::J::J::J::J::J::J::J::J::J::J::J::J::J::J::J::J::J::J::J::J::J::J::J::J::J::J::J::J::J::J::J::J::J::J::J::J::J::J::J::J::J::J::J::J::J::J::J::[]), h'⟩) ∧ h'[0]? = some (.arr 0 5 true [eGram g]) ∧ h'[1]? = some (.arr 0 1 true (eIs (roundU (hUpd y) (g.rules.drop i) (hs, more)).1)) ∧ HOk g.nonterms.length (roundU (hUpd y) (g.rules.drop i) (hs, more)).1 := by
 have hgl := hg.ok.rules
 rw [maxLen_eq] at hgl
 have nt := hg.good.nt
 intro d
 induction d with
 | zero =>
  intro i m hs more h h1 h2 e0 e1 ok
  obtain ⟨m, rfl⟩ : ∃ q, m = q + 1 := ⟨m - 1, by omega⟩
  have c : ¬ ((i : Int) < g.rules.length) := by omega
  have q1 : g.rules.drop i = [] := List.drop_eq_nil_iff.2 (by omega)
  obtain ⟨l1, l2, l3⟩ := ld_g h e0
  rw [q1]
  refine ⟨h, ?_, e0, e1, ok⟩
  simp only [loop_e,EB_r20_Heights_1,Zab,Zac,Zad,Zag,Zah,Zaj,Zak,Zal,Zas,Zav,Zay,Zbi,Zbk,Zbo,Zbq,Zby,Zcg,Zcv,Zcx,Zdb,Zdc,Zdd,Q2,Q3,Q0,Q1,Zdh,Zdt,Zdx,decide_false,Nat.reduceAdd,eq_self,Z0,l2,c,roundU,List.foldl_nil]
 | succ d ih =>
  intro i m hs more h h1 h2 e0 e1 ok
  obtain ⟨m, rfl⟩ : ∃ q, m = q + 1 := ⟨m - 1, by omega⟩
  have c0 : i < g.rules.length := by omega
  have c : (i : Int) < g.rules.length := by omega
  have q1 : g.rules.drop i = g.rules[i] :: g.rules.drop (i + 1) := List.drop_eq_getElem_cons c0
  obtain ⟨l1, l2, l3⟩ := ld_g h e0
  have hw := w64s (n := i) (by omega)
  have ir := fun h => ix_map eRule h 5 false g.rules .i64 i c0 rfl
  have mem := List.getElem_mem c0
  have e1' : h[1]? = some (.arr 0 1 true (eIs hs ++ [])) := by rw [List.append_nil]; exact e1
  obtain ⟨x, b, fx, gx⟩ := fzH (n := g.nonterms.length) (cc := none) e1' ok.len.symm 998
  obtain ⟨h3, rs⟩ := run_height hg hy gx ly ok.len yb (ok.small (by omega)) i c0
  obtain ⟨r, hr⟩ : ∃ r, r = g.rules[i] := ⟨_, rfl⟩
  rw [← hr] at ir mem q1 rs
  have rf := rule_f r
  obtain ⟨v1, v2, v3⟩ := hg.vr r mem
  have li : r.left.toNat < hs.length := by rw [ok.len]; omega
  have sm : lim G0.cfg (.func 59) [.agg (eGram g), .int .i64 i, xy, .hsl 1 0 0 g.nonterms.length none] h = some (.int .i64 (heightD y hs r), h) := by
   refine lim_fz rfl rfl P_r20_height 2000 (l := [(.agg (eGram g), true), (.int .i64 i, true), (xy, true), (x, b)]) ?_ rs (rfl : freeze h3 1000 (.int .i64 _) = some (.int .i64 _, true)) (Bool.or_true _)
   have i1 : freeze h 1000 (.int .i64 (i : Int)) = some (.int .i64 i, true) := rfl
   simp only [mapO,fz_gram,i1,hy.fz,fx]
  have el : ((r.left.toNat : Nat) : Int) = r.left := by omega
  have p1 := fun (h : AHeap) (e : h[1]? = some (.arr 0 1 true (eIs hs))) (k : IntKind) => ix_hvE (n := g.nonterms.length) (c := none) e (k := k) (j := r.left.toNat) (by omega)
  have p1 := p1 h e1
  rw [el] at p1
  have p2 : aload h 1 false (.ptr 1 0 r.left.toNat 0) = some (.int .i64 hs[r.left.toNat]) := ldI e1' li
  rw [← getD_get li 0] at p2
  obtain ⟨S, hS⟩ : ∃ S, S = heightD y hs r := ⟨_, rfl⟩
  obtain ⟨old, hold⟩ : ∃ o, o = hs.getD r.left.toNat 0 := ⟨_, rfl⟩
  rw [← hS] at sm
  rw [← hold] at p2
  rw [q1, roundU_cons]
  by_cases up : 0 < S ∧ (old = 0 ∨ S < old)
  ·have eu : hUpd y hs r = some (hs.set r.left.toNat S) := by unfold hUpd; rw [← hS, ← hold, if_pos up]
   obtain ⟨ok', _⟩ := hUpd_ok hg.vr mem ok eu
   have st := stI e1' li S
   rw [List.append_nil] at st
   obtain ⟨H2, hH2⟩ : ∃ H, H = h.set 1 (.arr 0 1 true (eIs (hs.set r.left.toNat S))) := ⟨_, rfl⟩
   rw [← hH2] at st
   obtain ⟨h', k1, k2, k3, k4⟩ := ih (i + 1) m (hs.set r.left.toNat S) true H2 (by omega) (by omega) (by rw [hH2]; exact get_set_ne e0 (by omega)) (by rw [hH2]; exact get_set_eq e1) ok'
   simp only [eu]
   refine ⟨h', ?_, k2, k3, k4⟩
   rw [← k1]
   by_cases o : old = 0
   ·have dz : decide (old = 0) = true := decide_eq_true o
    simp only [loop_e,EB_r20_Heights_1,Zaa,Zab,Zac,Zad,Zae,Zag,Zaj,Zak,Zan,Zar,Zau,Zay,Zaz,Zba,Zbb,Zbd,Zbg,Zbi,Zbj,Zbk,Zbl,Zbo,Zbp,Zbq,Zby,Zcb,Zcg,Zcp,Zcq,Zcv,Zcw,Zcx,Zcy,Zcz,Zda,Zdb,Zdc,Zdd,Q2,Q3,Q0,Q1,Zde,Zdh,Zdj,Zdl,Zdt,Zdx,Zdy,decide_true,Nat.reduceAdd,eq_self,Z0,Q5,Q7,l2,l3,c,ir,rf,sm,up.1,p1,p2,dz,st,hw]
   ·have dz : decide (old = 0) = false := decide_eq_false o
    have o2 : S < old := by omega
    simp only [loop_e,EB_r20_Heights_1,Zaa,Zab,Zac,Zad,Zae,Zag,Zaj,Zak,Zan,Zar,Zau,Zay,Zaz,Zba,Zbb,Zbc,Zbg,Zbh,Zbi,Zbj,Zbk,Zbl,Zbo,Zbp,Zbq,Zby,Zcb,Zcg,Zcp,Zcq,Zcv,Zcw,Zcx,Zcy,Zcz,Zda,Zdb,Zdc,Zdd,Q2,Q3,Q0,Q1,Zde,Zdh,Zdj,Zdl,Zdt,Zdx,Zdy,decide_true,Nat.reduceAdd,eq_self,Z0,Q5,Q7,l2,l3,c,ir,rf,sm,up.1,p1,p2,dz,o2,st,hw]
  ·have eu : hUpd y hs r = none := by unfold hUpd; rw [← hS, ← hold, if_neg up]
   obtain ⟨h', k1, k2, k3, k4⟩ := ih (i + 1) m hs more h (by omega) (by omega) e0 e1 ok
   simp only [eu]
   refine ⟨h', ?_, k2, k3, k4⟩
   rw [← k1]
   by_cases o0 : 0 < S
   ·have dz : decide (old = 0) = false := decide_eq_false (by omega)
    have o2 : ¬ S < old := by omega
    simp only [loop_e,EB_r20_Heights_1,Zaa,Zab,Zac,Zad,Zae,Zag,Zaj,Zak,Zan,Zar,Zas,Zau,Zay,Zaz,Zbb,Zbc,Zbg,Zbh,Zbi,Zbj,Zbk,Zbl,Zbo,Zbq,Zby,Zcb,Zcg,Zcp,Zcq,Zcv,Zcw,Zcx,Zcz,Zda,Zdb,Zdc,Zdd,Q2,Q3,Q0,Q1,Zde,Zdh,Zdj,Zdl,Zdt,Zdx,Zdy,decide_true,decide_false,Nat.reduceAdd,eq_self,Z0,Q5,Q7,l2,l3,c,ir,rf,sm,o0,p1,p2,dz,o2,hw]
   ·simp only [loop_e,EB_r20_Heights_1,Zaa,Zab,Zac,Zad,Zae,Zag,Zaj,Zak,Zan,Zar,Zas,Zau,Zay,Zaz,Zbe,Zbf,Zbh,Zbi,Zbj,Zbk,Zbl,Zbo,Zbq,Zby,Zcb,Zcg,Zcp,Zcq,Zcv,Zcw,Zcx,Zcz,Zda,Zdb,Zdc,Zdd,Q2,Q3,Q0,Q1,Zde,Zdh,Zdj,Zdt,Zdx,Zdy,decide_true,decide_false,Nat.reduceAdd,eq_self,Z0,Q5,Q7,l2,l3,c,ir,rf,sm,o0,hw]
theorem heights_0 (hg : GramR g) {y : List Int} {xy : AV} (hy : Li y xy) (ly : y.length = g.nonterms.length) (yb : ∀ c ∈ y, -1 ≤ c ∧ c ≤ most) (N : Nat) (hN : g.rules.length < N) : ∀ (k m : Nat) (hs Y : List Int) (h : AHeap), Steps (hUpd y) g.rules k hs Y → k + 1 < m → h[0]? = some (.arr 0 5 true [eGram g]) → h[1]? = some (.arr 0 1 true (eIs hs)) → HOk g.nonterms.length hs →
  ∃ h', loopN (evalCode (lim G0.cfg) N B_r20_Heights_0) m ⟨(J::.ptr 0 0 0 0::J::xy :: .hsl 1 0 0 g.nonterms.length none :: .bool true::J::J::J::J::J::J::J::J::J::J::J::J::J::J::J::J::J::J::J::J::J::J::J::J::J::J::J::J::J::J::J::J::J::J::J::J::J::J::J::J::J::J::J::J::J::J::J::J::J::J::[]), h⟩ = some (.exit 0, ⟨(J::J::J::J::.hsl 1 0 0 g.nonterms.length none::J::J::J::J::J::J::J::J::J::J::J::J::J::J::J::J::J::J::J::J::J::J::J::J::J::J::J::J::J::J::J::J::J::J::J::J::J::J::J::J::J::J::J::J::J::J::J::J::J::J::J::[]), h'⟩) ∧ h'[1]? = some (.arr 0 1 true (eIs Y)) ∧ HOk g.nonterms.length Y := by
 intro k
 induction k with
 | zero =>
  intro m hs Y h st h1 e0 e1 ok
  obtain ⟨m, rfl⟩ : ∃ q, m = q + 2 := ⟨m - 2, by omega⟩
  obtain ⟨h', k1, k2, k3, k4⟩ := heights_1 hg hy ly yb N g.rules.length 0 N hs false h (by omega) hN e0 e1 ok
  rw [List.drop_zero] at k1 k3
  rw [st.1, z0] at k1
  rw [(roundU_same (hUpd y) g.rules hs st.1).2] at k3
  rw [st.2]
  refine ⟨h', ?_, k3, ok⟩
  simp only [loop_e,EB_r20_Heights_0,Zaa,Zab,Zac,Zad,Zae,Zaf,Zag,Zah,Zaj,Zak,Zal,Zan,Zap,Zar,Zas,Zat,Zau,Zav,Zbi,Zbk,Zcv,Zcw,Zcx,Zdb,Zdc,Zdd,Q2,Q3,Q0,Q1,eq_self,k1]
 | succ k ih =>
  intro m hs Y h st h1 e0 e1 ok
  obtain ⟨m, rfl⟩ : ∃ q, m = q + 1 := ⟨m - 1, by omega⟩
  obtain ⟨h', k1, k2, k3, k4⟩ := heights_1 hg hy ly yb N g.rules.length 0 N hs false h (by omega) hN e0 e1 ok
  rw [List.drop_zero] at k1 k3 k4
  rw [st.1, z0] at k1
  obtain ⟨h2, j1, j2⟩ := ih m _ Y h' st.2 (by omega) k2 k3 k4
  refine ⟨h2, ?_, j2⟩
  rw [← j1]
  simp only [loop_e,EB_r20_Heights_0,Zaa,Zab,Zac,Zad,Zae,Zaf,Zag,Zaj,Zak,Zan,Zap,Zar,Zat,Zau,Zbi,Zbk,Zcv,Zcw,Zcx,Zdb,Zdc,Zdd,Q2,Q3,Q0,Q1,eq_self,k1]
theorem r_Heights (hg : GramR g) {y : List Int} {xy : AV} (hy : Li y xy) (ly : y.length = g.nonterms.length) (yb : ∀ c ∈ y, -1 ≤ c ∧ c ≤ most) (my : ∀ H, lim G0.cfg (.func 50) [.agg (eGram g)] H = some (xy, H)) : ∃ (h : List Int) (x : AV), (∃ k, Steps (hUpd y) g.rules k (Z2 g.nonterms.length 0) h) ∧ Li h x ∧ HOk g.nonterms.length h ∧ ∀ H, lim G0.cfg (.func 58) [.agg (eGram g)] H = some (x, H) := by
 obtain ⟨k, hs, hk⟩ := heights_ex hg.vr y
 have nt := hg.good.nt
 have ok0 : HOk g.nonterms.length (Z2 g.nonterms.length 0) := by
  refine ⟨by simp, fun c hc => ?_⟩
  rw [List.eq_of_mem_replicate hc]
  have : hm1 (Z2 g.nonterms.length 0) = g.nonterms.length := by
   unfold hm1
   rw [List.map_replicate, List.sum_replicate_nat]
   simp
  omega
 obtain ⟨N, hN⟩ : ∃ N, N = k + g.rules.length + 2000 := ⟨_, rfl⟩
 have mk := mk_I [.arr 0 5 true [eGram g]] g.nonterms.length (by omega)
 obtain ⟨h2, e2, e3, ok⟩ := heights_0 hg hy ly yb N (by omega) k N _ hs [.arr 0 5 true [eGram g], .arr 0 1 true (eIs (Z2 g.nonterms.length 0))] hk (by omega) rfl rfl ok0
 have e3' : h2[1]? = some (.arr 0 1 true (eIs hs ++ [])) := by rw [List.append_nil]; exact e3
 obtain ⟨x, c, f1, g1⟩ := fzH (n := g.nonterms.length) (cc := none) e3' ok.len.symm 998
 refine ⟨hs, x, ⟨k, hk⟩, g1, ok, fun H => lim_at rfl rfl P_r20_Heights N (fun h => fz_1 (fz_gram g h)) ?_ f1 H⟩
 obtain ⟨l1, l2, l3⟩ := ld_g (g := g) [.arr 0 5 true [eGram g]] rfl
 rw [R_r20_Heights]
 simp only [Zab,Zac,Zae,Zaf,Zag,Zai,Zaj,Zak,Zap,Zat,Zay,Zaz,Zbi,Zbk,Zbn,Zbo,Zbv,Zby,Zcg,Zcp,Zcq,Zcs,Zcu,Zcv,Zcw,Zcx,Zcz,Zda,Zdb,Zdc,Zdd,Q2,Q3,Q0,Q1,Z1,Zdt,Zdx,Zeb,Zeq,Q4,Q6,if_true,Nat.reduceAdd,Nat.reduceSub,eq_self,Q4,Q6,Q8,Q9,Q5,Q7,l1,l3,my,mk,e2,resAll,resVals,resVal]
end
end Go.Proofs.Ytkimloceaihplaa.Ai
