/- PackOf: the law. -/
import Derived.Test.YtkgndbhflehhhaaqPrb
namespace Go.Proofs.Ytkgndbhflehhhaa.Ai
open Go Go.Proofs
set_option linter.unusedVariables false
set_option linter.unusedSimpArgs false
set_option maxRecDepth 10000
set_option maxHeartbeats 4000000

theorem len_bound {X : Type} : ∀ l : List (List X), ∃ S, ∀ r ∈ l, r.length ≤ S := by
  intro l
  induction l with
  | nil => exact ⟨0, fun _ h => by simp at h⟩
  | cons a l ih =>
    obtain ⟨S, hS⟩ := ih
    refine ⟨max a.length S, fun r hr => ?_⟩
    rcases List.mem_cons.1 hr with rfl | hr
    · omega
    · have := hS r hr; omega
theorem em15 (k : Nat) : ammx false [.int .i64 ((k : Nat) : Int), .int .i64 1500] = some (.int .i64 ((min k 1500 : Nat) : Int)) := by
  have : ammx false [.int .i64 ((k : Nat) : Int), .int .i64 1500] = some (.int .i64 (if (1500 : Int) < k then 1500 else k)) := by simp [ammx, amm]
  rw [this]
  congr 2
  split <;> omega

theorem packD_small {t : TabD} (hk : t.ok) (hn : t.acts.length ≤ 1500) : ((packD t).a.row.length ≤ 1000000000 ∧ (packD t).a.base.length ≤ 1000000000 ∧ (packD t).a.val.length ≤ 1000000000 ∧ (packD t).a.own.length ≤ 1000000000) ∧ ((packD t).g.row.length ≤ 1000000000 ∧ (packD t).g.base.length ≤ 1000000000 ∧ (packD t).g.val.length ≤ 1000000000 ∧ (packD t).g.own.length ≤ 1000000000) := by
  obtain ⟨s1, s2, s3, s4⟩ := TabD.sizes hk
  have fr := hk.1
  obtain ⟨f1, f2, f3, f4, f5, f6, f7⟩ := fr
  have m1 : t.numA.length * 256 ≤ 1500 * 256 := Nat.mul_le_mul_right 256 (by omega)
  have m2 : t.numG.length * 512 ≤ 1500 * 512 := Nat.mul_le_mul_right 512 (by omega)
  obtain ⟨z1, z2, z3, z4, z5, z6, z7⟩ := lay_sizes t.numA 256 (fun r hr => by rw [s3 r hr]; omega)
  obtain ⟨y1, y2, y3, y4, y5, y6, y7⟩ := lay_sizes t.numG 512 (fun r hr => by rw [s4 r hr]; omega)
  have x1 : (layT t.numA).row.length = t.numA.length := dist_len _
  have x2 : (layT t.numG).row.length = t.numG.length := dist_len _
  have e1 : (packD t).a = layT t.numA := rfl
  have e2 : (packD t).g = layT t.numG := rfl
  rw [e1, e2]
  exact ⟨⟨by omega, by omega, by omega, by omega⟩, by omega, by omega, by omega, by omega⟩

section
variable {t : TabD} {av gv : AV}
theorem few_1 (ha : LiG (LiG LiA) t.acts av) (hL : ∀ r ∈ t.acts, r.length ≤ maxLen) (i : Nat) (hi : i < t.acts.length) (N : Nat) (h : AHeap) (e0 : h[0]? = some (.arr 0 2 true [[av, gv]])) : ∀ (d j m n : Nat), t.acts[i].length = j + d → d < m → n ≤ 3100 →
    ∃ n', n' ≤ 3100 ∧ loopN (evalCode (lim G0.cfg) N B_l32_Few_1) m ⟨(.junk :: .ptr 0 0 0 0 :: .junk :: .int .i64 n :: .int .i64 i :: .int .i64 j :: .junk::.junk::.junk::.junk::.junk::.junk::.junk::.junk::.junk::.junk::.junk::.junk::.junk::.junk::.junk::.junk::.junk::.junk::.junk::.junk::.junk::.junk::.junk::.junk::.junk::.junk::.junk::.junk::.junk::.junk::.junk::.junk::.junk::.junk::.junk::.junk::.junk::.junk::.junk::.junk::.junk::.junk::.junk::.junk::.junk::.junk::.junk::.junk::.junk::.junk::.junk::.junk::.junk::.junk::.junk::.junk::.junk::.junk::.junk::.junk::.junk::.junk::.junk::.junk::.junk::.junk::.junk::.junk::.junk::.junk::.junk::.junk::.junk::.junk::.junk::.junk::.junk::.junk::.junk::.junk::.junk::.junk::.junk::.junk::.junk::.junk::.junk :: []), h⟩ = some (.exit 2, ⟨(.junk :: .ptr 0 0 0 0 :: .junk :: .int .i64 (n' : Nat) :: .int .i64 i :: .junk::.junk::.junk::.junk::.junk::.junk::.junk::.junk::.junk::.junk::.junk::.junk::.junk::.junk::.junk::.junk::.junk::.junk::.junk::.junk::.junk::.junk::.junk::.junk::.junk::.junk::.junk::.junk::.junk::.junk::.junk::.junk::.junk::.junk::.junk::.junk::.junk::.junk::.junk::.junk::.junk::.junk::.junk::.junk::.junk::.junk::.junk::.junk::.junk::.junk::.junk::.junk::.junk::.junk::.junk::.junk::.junk::.junk::.junk::.junk::.junk::.junk::.junk::.junk::.junk::.junk::.junk::.junk::.junk::.junk::.junk::.junk::.junk::.junk::.junk::.junk::.junk::.junk::.junk::.junk::.junk::.junk::.junk::.junk::.junk::.junk::.junk::.junk :: []), h⟩) := by
  have hl := hL _ (List.getElem_mem hi)
  obtain ⟨rv, hr, xr⟩ := ha.ix i hi
  obtain ⟨row, hrow⟩ : ∃ r, r = t.acts[i] := ⟨_, rfl⟩
  rw [← hrow] at hr hl ⊢
  rw [maxLen_eq] at hl
  have nr := hr.len
  have la0 := tab_a h e0
  intro d
  induction d with
  | zero =>
    intro j m n h1 h2 h3
    obtain ⟨m, rfl⟩ : ∃ q, m = q + 1 := ⟨m - 1, by omega⟩
    have h4 : ¬ ((j : Int) < row.length) := by omega
    refine ⟨n, h3, ?_⟩
    simp only [loop_e,EB_l32_Few_1,Zab,Zac,Zad,Zag,Zah,Zaj,Zak,Zal,Zas,Zav,Zay,Zbe,Zbh,Zbi,Zbj,Zbk,Zbl,Zbo,Zbq,Zby,Zcb,Zcg,Zcv,Zcw,Zcx,Zdb,Zdc,Zdd,List.set_cons_zero,List.set_cons_succ,List.getD_cons_zero,List.getD_cons_succ,Zdh,Zdx,decide_false,Nat.reduceAdd,eq_self,la0,xr,lv_p,nr,h4]
  | succ d ih =>
    intro j m n h1 h2 h3
    obtain ⟨m, rfl⟩ : ∃ q, m = q + 1 := ⟨m - 1, by omega⟩
    have h4 : j < row.length := by omega
    have h4' : (j : Int) < row.length := by omega
    by_cases c : (n : Int) < 1500
    · have hw := w64s (n := j) (by omega)
      obtain ⟨cv, hc, xc⟩ := hr.ix j h4
      have nc := hc.len
      have em := em15 row[j].length
      have hw2 := w64a (a := n) (b := min row[j].length 1500) (by omega)
      obtain ⟨n', k1, k2⟩ := ih (j + 1) m (n + min row[j].length 1500) (by omega) (by omega) (by omega)
      refine ⟨n', k1, ?_⟩
      rw [← k2]
      simp only [loop_e,EB_l32_Few_1,Zaa,Zab,Zac,Zad,Zae,Zag,Zaj,Zak,Zan,Zar,Zau,Zay,Zbb,Zbg,Zbi,Zbj,Zbk,Zbl,Zbo,Zbq,Zby,Zcb,Zcg,Zcl,Zcv,Zcw,Zcx,Zcz,Zda,Zdb,Zdc,Zdd,List.set_cons_zero,List.set_cons_succ,List.getD_cons_zero,List.getD_cons_succ,Zde,Zdh,Zdx,decide_true,Nat.reduceAdd,eq_self,la0,xr,lv_p,nr,h4',c,xc,nc,em,hw2,hw]
    · refine ⟨n, h3, ?_⟩
      simp only [loop_e,EB_l32_Few_1,Zab,Zac,Zad,Zag,Zah,Zaj,Zak,Zal,Zas,Zav,Zay,Zbb,Zbg,Zbi,Zbj,Zbk,Zbl,Zbo,Zbq,Zby,Zcb,Zcg,Zcv,Zcw,Zcx,Zdb,Zdc,Zdd,List.set_cons_zero,List.set_cons_succ,List.getD_cons_zero,List.getD_cons_succ,Zdh,Zdx,decide_true,decide_false,Nat.reduceAdd,eq_self,la0,xr,lv_p,nr,h4',c]
theorem few_0 (ha : LiG (LiG LiA) t.acts av) (hL0 : t.acts.length ≤ maxLen) (hL : ∀ r ∈ t.acts, r.length ≤ maxLen) (N : Nat) (hN : ∀ r ∈ t.acts, r.length < N) (h : AHeap) (e0 : h[0]? = some (.arr 0 2 true [[av, gv]])) : ∀ (d i m n : Nat), t.acts.length = i + d → d < m → n ≤ 3100 →
    ∃ n', n' ≤ 3100 ∧ loopN (evalCode (lim G0.cfg) N B_l32_Few_0) m ⟨(.junk :: .ptr 0 0 0 0 :: .junk :: .int .i64 n :: .int .i64 i :: .junk::.junk::.junk::.junk::.junk::.junk::.junk::.junk::.junk::.junk::.junk::.junk::.junk::.junk::.junk::.junk::.junk::.junk::.junk::.junk::.junk::.junk::.junk::.junk::.junk::.junk::.junk::.junk::.junk::.junk::.junk::.junk::.junk::.junk::.junk::.junk::.junk::.junk::.junk::.junk::.junk::.junk::.junk::.junk::.junk::.junk::.junk::.junk::.junk::.junk::.junk::.junk::.junk::.junk::.junk::.junk::.junk::.junk::.junk::.junk::.junk::.junk::.junk::.junk::.junk::.junk::.junk::.junk::.junk::.junk::.junk::.junk::.junk::.junk::.junk::.junk::.junk::.junk::.junk::.junk::.junk::.junk::.junk::.junk::.junk::.junk::.junk::.junk :: []), h⟩ = some (.exit 0, ⟨(.junk :: .ptr 0 0 0 0 :: .junk :: .int .i64 (n' : Nat) :: .junk::.junk::.junk::.junk::.junk::.junk::.junk::.junk::.junk::.junk::.junk::.junk::.junk::.junk::.junk::.junk::.junk::.junk::.junk::.junk::.junk::.junk::.junk::.junk::.junk::.junk::.junk::.junk::.junk::.junk::.junk::.junk::.junk::.junk::.junk::.junk::.junk::.junk::.junk::.junk::.junk::.junk::.junk::.junk::.junk::.junk::.junk::.junk::.junk::.junk::.junk::.junk::.junk::.junk::.junk::.junk::.junk::.junk::.junk::.junk::.junk::.junk::.junk::.junk::.junk::.junk::.junk::.junk::.junk::.junk::.junk::.junk::.junk::.junk::.junk::.junk::.junk::.junk::.junk::.junk::.junk::.junk::.junk::.junk::.junk::.junk::.junk::.junk::.junk :: []), h⟩) := by
  rw [maxLen_eq] at hL0
  have na := ha.len
  have la0 := tab_a h e0
  intro d
  induction d with
  | zero =>
    intro i m n h1 h2 h3
    obtain ⟨m, rfl⟩ : ∃ q, m = q + 1 := ⟨m - 1, by omega⟩
    have h4 : ¬ ((i : Int) < t.acts.length) := by omega
    refine ⟨n, h3, ?_⟩
    simp only [loop_e,EB_l32_Few_0,Zab,Zac,Zad,Zag,Zah,Zaj,Zak,Zal,Zas,Zav,Zay,Zbe,Zbh,Zbi,Zbj,Zbk,Zbl,Zbo,Zbq,Zby,Zcg,Zcv,Zcw,Zcx,Zdb,Zdc,Zdd,List.set_cons_zero,List.set_cons_succ,List.getD_cons_zero,List.getD_cons_succ,Zdh,Zdx,decide_false,Nat.reduceAdd,eq_self,la0,na,h4]
  | succ d ih =>
    intro i m n h1 h2 h3
    obtain ⟨m, rfl⟩ : ∃ q, m = q + 1 := ⟨m - 1, by omega⟩
    have h4 : i < t.acts.length := by omega
    have h4' : (i : Int) < t.acts.length := by omega
    by_cases c : (n : Int) < 1500
    · have hw := w64s (n := i) (by omega)
      have hw1 := w64s (n := n) (by omega)
      obtain ⟨rv, hr, xr⟩ := ha.ix i h4
      have nr := hr.len
      have em := em15 t.acts[i].length
      have hw2 := w64a (a := n + 1) (b := min t.acts[i].length 1500) (by omega)
      obtain ⟨n1, j1, j2⟩ := few_1 (gv := gv) ha hL i h4 N h e0 t.acts[i].length 0 N (n + 1 + min t.acts[i].length 1500) (by omega) (hN _ (List.getElem_mem h4)) (by omega)
      rw [z0] at j2
      obtain ⟨n', k1, k2⟩ := ih (i + 1) m n1 (by omega) (by omega) j1
      refine ⟨n', k1, ?_⟩
      rw [← k2]
      simp only [loop_e,EB_l32_Few_0,Zaa,Zab,Zac,Zad,Zae,Zaf,Zag,Zaj,Zak,Zan,Zap,Zar,Zat,Zau,Zay,Zbb,Zbg,Zbi,Zbj,Zbk,Zbl,Zbo,Zbq,Zby,Zcb,Zcg,Zcl,Zcv,Zcw,Zcx,Zcz,Zda,Zdb,Zdc,Zdd,List.set_cons_zero,List.set_cons_succ,List.getD_cons_zero,List.getD_cons_succ,Zde,Zdh,Zdx,decide_true,Nat.reduceAdd,eq_self,la0,na,h4',c,xr,lv_p,nr,em,hw1,hw2,j2,hw]
    · refine ⟨n, h3, ?_⟩
      simp only [loop_e,EB_l32_Few_0,Zab,Zac,Zad,Zag,Zah,Zaj,Zak,Zal,Zas,Zav,Zay,Zbb,Zbg,Zbi,Zbj,Zbk,Zbl,Zbo,Zbq,Zby,Zcg,Zcv,Zcw,Zcx,Zdb,Zdc,Zdd,List.set_cons_zero,List.set_cons_succ,List.getD_cons_zero,List.getD_cons_succ,Zdh,Zdx,decide_true,decide_false,Nat.reduceAdd,eq_self,la0,na,h4',c]
theorem few_2 (hg : LiR t.gotos gv) (hL0 : t.gotos.length ≤ maxLen) (N : Nat) (h : AHeap) (e0 : h[0]? = some (.arr 0 2 true [[av, gv]])) : ∀ (d i m n : Nat), t.gotos.length = i + d → d < m → n ≤ 3100 →
    ∃ n', n' ≤ 3100 ∧ loopN (evalCode (lim G0.cfg) N B_l32_Few_2) m ⟨(.junk :: .ptr 0 0 0 0 :: .junk :: .int .i64 n :: .junk::.junk :: .int .i64 i :: .junk::.junk::.junk::.junk::.junk::.junk::.junk::.junk::.junk::.junk::.junk::.junk::.junk::.junk::.junk::.junk::.junk::.junk::.junk::.junk::.junk::.junk::.junk::.junk::.junk::.junk::.junk::.junk::.junk::.junk::.junk::.junk::.junk::.junk::.junk::.junk::.junk::.junk::.junk::.junk::.junk::.junk::.junk::.junk::.junk::.junk::.junk::.junk::.junk::.junk::.junk::.junk::.junk::.junk::.junk::.junk::.junk::.junk::.junk::.junk::.junk::.junk::.junk::.junk::.junk::.junk::.junk::.junk::.junk::.junk::.junk::.junk::.junk::.junk::.junk::.junk::.junk::.junk::.junk::.junk::.junk::.junk::.junk::.junk::.junk::.junk :: []), h⟩ = some (.exit 4, ⟨(.junk::.junk::.junk :: .int .i64 (n' : Nat) :: .junk::.junk::.junk::.junk::.junk::.junk::.junk::.junk::.junk::.junk::.junk::.junk::.junk::.junk::.junk::.junk::.junk::.junk::.junk::.junk::.junk::.junk::.junk::.junk::.junk::.junk::.junk::.junk::.junk::.junk::.junk::.junk::.junk::.junk::.junk::.junk::.junk::.junk::.junk::.junk::.junk::.junk::.junk::.junk::.junk::.junk::.junk::.junk::.junk::.junk::.junk::.junk::.junk::.junk::.junk::.junk::.junk::.junk::.junk::.junk::.junk::.junk::.junk::.junk::.junk::.junk::.junk::.junk::.junk::.junk::.junk::.junk::.junk::.junk::.junk::.junk::.junk::.junk::.junk::.junk::.junk::.junk::.junk::.junk::.junk::.junk::.junk::.junk::.junk :: []), h⟩) := by
  rw [maxLen_eq] at hL0
  have na := hg.len
  have la0 := tab_g h e0
  intro d
  induction d with
  | zero =>
    intro i m n h1 h2 h3
    obtain ⟨m, rfl⟩ : ∃ q, m = q + 1 := ⟨m - 1, by omega⟩
    have h4 : ¬ ((i : Int) < t.gotos.length) := by omega
    refine ⟨n, h3, ?_⟩
    simp only [loop_e,EB_l32_Few_2,Zab,Zac,Zad,Zag,Zah,Zaj,Zak,Zal,Zas,Zav,Zay,Zbe,Zbh,Zbi,Zbj,Zbk,Zbl,Zbo,Zbq,Zby,Zcg,Zcv,Zcw,Zcx,Zdb,Zdc,Zdd,List.set_cons_zero,List.set_cons_succ,List.getD_cons_zero,List.getD_cons_succ,Zdh,Zdx,decide_false,Nat.reduceAdd,eq_self,la0,na,h4]
  | succ d ih =>
    intro i m n h1 h2 h3
    obtain ⟨m, rfl⟩ : ∃ q, m = q + 1 := ⟨m - 1, by omega⟩
    have h4 : i < t.gotos.length := by omega
    have h4' : (i : Int) < t.gotos.length := by omega
    by_cases c : (n : Int) < 1500
    · have hw := w64s (n := i) (by omega)
      have hw1 := w64s (n := n) (by omega)
      obtain ⟨rv, hr, xr⟩ := hg.ix i h4
      have nr := hr.len
      have em := em15 t.gotos[i].length
      have hw2 := w64a (a := n + 1) (b := min t.gotos[i].length 1500) (by omega)
      obtain ⟨n', k1, k2⟩ := ih (i + 1) m (n + 1 + min t.gotos[i].length 1500) (by omega) (by omega) (by omega)
      refine ⟨n', k1, ?_⟩
      rw [← k2]
      simp only [loop_e,EB_l32_Few_2,Zaa,Zab,Zac,Zad,Zae,Zag,Zaj,Zak,Zan,Zar,Zau,Zay,Zbb,Zbg,Zbi,Zbj,Zbk,Zbl,Zbo,Zbq,Zby,Zcb,Zcg,Zcl,Zcv,Zcw,Zcx,Zcz,Zda,Zdb,Zdc,Zdd,List.set_cons_zero,List.set_cons_succ,List.getD_cons_zero,List.getD_cons_succ,Zde,Zdh,Zdx,decide_true,Nat.reduceAdd,eq_self,la0,na,h4',c,xr,lv_p,nr,em,hw1,hw2,hw]
    · refine ⟨n, h3, ?_⟩
      simp only [loop_e,EB_l32_Few_2,Zab,Zac,Zad,Zag,Zah,Zaj,Zak,Zal,Zas,Zav,Zay,Zbb,Zbg,Zbi,Zbj,Zbk,Zbl,Zbo,Zbq,Zby,Zcg,Zcv,Zcw,Zcx,Zdb,Zdc,Zdd,List.set_cons_zero,List.set_cons_succ,List.getD_cons_zero,List.getD_cons_succ,Zdh,Zdx,decide_true,decide_false,Nat.reduceAdd,eq_self,la0,na,h4',c]
theorem f_Few (ha : LiG (LiG LiA) t.acts av) (hg : LiR t.gotos gv) (hL0 : t.acts.length ≤ maxLen) (hL1 : t.gotos.length ≤ maxLen) (hL : ∀ r ∈ t.acts, r.length ≤ maxLen) : ∃ b : Bool, (b = true → ¬ (60 < t.acts.length ∧ t.acts.length ≤ 4096)) ∧ ∀ H, lim G0.cfg (.func 18) [.agg [av, gv]] H = some (.bool b, H) := by
  obtain ⟨S, hS⟩ := len_bound t.acts
  have bx := tab_box ha hg
  obtain ⟨h1, hh1⟩ : ∃ h1 : AHeap, h1 = [.arr 0 2 true [[av, gv]]] := ⟨_, rfl⟩
  have e0 : h1[0]? = some (.arr 0 2 true [[av, gv]]) := by rw [hh1]; rfl
  have l0 := tab_a h1 e0
  have l1 := tab_g h1 e0
  have na := ha.len
  have ng := hg.len
  obtain ⟨n1, k1, k2⟩ := few_0 ha hL0 hL (t.acts.length + t.gotos.length + S + 1) (fun r hr => by have := hS r hr; omega) h1 e0 t.acts.length 0 (t.acts.length + t.gotos.length + S + 1) 0 (by omega) (by omega) (by omega)
  obtain ⟨n2, k3, k4⟩ := few_2 hg hL1 (t.acts.length + t.gotos.length + S + 1) h1 e0 t.gotos.length 0 (t.acts.length + t.gotos.length + S + 1) n1 (by omega) (by omega) k1
  rw [z0] at k2 k4
  rw [hh1] at l0 l1 k2 k4
  have flat := fun (b : Bool) (hr : ∃ h', runFn (lim G0.cfg) (t.acts.length + t.gotos.length + S + 1) A_l32_Few [.agg [av, gv]] [] = some (.bool b, h')) (H : AHeap) => lim_flat rfl rfl P_l32_Few _ (tab_fz ha hg) hr (fun _ => rfl) H
  by_cases c1 : (60 : Int) < t.acts.length
  · by_cases c2 : (t.acts.length : Int) ≤ 4096
    · refine ⟨false, fun e => (by cases e), flat false ?_⟩
      rw [R_l32_Few]
      simp only [Zab,Zac,Zad,Zai,Zaj,Zak,Zam,Zar,Zay,Zaz,Zbb,Zbd,Zbg,Zbi,Zbj,Zbk,Zbl,Zbn,Zbo,Zbq,Zby,Zcg,Zcs,Zcu,Zcv,Zcw,Zcx,List.set_cons_zero,List.set_cons_succ,List.getD_cons_zero,List.getD_cons_succ,Option.map_some,Zdi,Zdj,Zdx,Zeb,decide_true,List.length_cons,List.length_nil,if_true,Nat.reduceAdd,Nat.reduceSub,eq_self,true_and,List.length_cons,List.length_nil,List.replicate_succ,List.replicate_zero,List.cons_append,List.nil_append,List.nil_append,List.length_nil,l0,na,c1,c2,resAll,resVals,resVal,Option.some.injEq,Prod.mk.injEq,true_and,exists_eq']
    · by_cases c3 : (5000 : Int) < t.gotos.length
      · refine ⟨false, fun e => (by cases e), flat false ?_⟩
        rw [R_l32_Few]
        simp only [Zab,Zac,Zad,Zai,Zaj,Zak,Zam,Zar,Zay,Zaz,Zbb,Zbc,Zbg,Zbh,Zbi,Zbj,Zbk,Zbl,Zbn,Zbo,Zbq,Zby,Zcg,Zcs,Zcu,Zcv,Zcw,Zcx,List.set_cons_zero,List.set_cons_succ,List.getD_cons_zero,List.getD_cons_succ,Option.map_some,Zdi,Zdj,Zdx,Zeb,decide_true,decide_false,List.length_cons,List.length_nil,if_true,Nat.reduceAdd,Nat.reduceSub,eq_self,true_and,List.length_cons,List.length_nil,List.replicate_succ,List.replicate_zero,List.cons_append,List.nil_append,List.nil_append,List.length_nil,l0,l1,na,ng,c1,c2,c3,resAll,resVals,resVal,Option.some.injEq,Prod.mk.injEq,true_and,exists_eq']
      · refine ⟨decide ((n2 : Int) < 1500), fun _ => by omega, flat _ ?_⟩
        rw [R_l32_Few]
        simp only [Zaa,Zab,Zac,Zad,Zae,Zaf,Zag,Zai,Zaj,Zak,Zap,Zas,Zat,Zay,Zaz,Zbb,Zbc,Zbg,Zbh,Zbi,Zbj,Zbk,Zbl,Zbn,Zbo,Zbq,Zby,Zcg,Zcs,Zcu,Zcv,Zcw,Zcx,Zdb,Zdc,Zdd,List.set_cons_zero,List.set_cons_succ,List.getD_cons_zero,List.getD_cons_succ,Option.map_some,Zdh,Zdi,Zdj,Zdx,Zeb,decide_true,decide_false,List.length_cons,List.length_nil,if_true,Nat.reduceAdd,Nat.reduceSub,eq_self,true_and,List.length_cons,List.length_nil,List.replicate_succ,List.replicate_zero,List.cons_append,List.nil_append,List.nil_append,List.length_nil,l0,l1,na,ng,c1,c2,c3,k2,k4,resAll,resVals,resVal,Option.some.injEq,Prod.mk.injEq,true_and,exists_eq']
  · by_cases c3 : (5000 : Int) < t.gotos.length
    · refine ⟨false, fun e => (by cases e), flat false ?_⟩
      rw [R_l32_Few]
      simp only [Zab,Zac,Zad,Zai,Zaj,Zak,Zam,Zar,Zay,Zaz,Zbc,Zbe,Zbh,Zbi,Zbj,Zbk,Zbl,Zbn,Zbo,Zbq,Zby,Zcg,Zcs,Zcu,Zcv,Zcw,Zcx,List.set_cons_zero,List.set_cons_succ,List.getD_cons_zero,List.getD_cons_succ,Option.map_some,Zdj,Zdx,Zeb,decide_true,decide_false,List.length_cons,List.length_nil,if_true,Nat.reduceAdd,Nat.reduceSub,eq_self,true_and,List.length_cons,List.length_nil,List.replicate_succ,List.replicate_zero,List.cons_append,List.nil_append,List.nil_append,List.length_nil,l0,l1,na,ng,c1,c3,resAll,resVals,resVal,Option.some.injEq,Prod.mk.injEq,true_and,exists_eq']
    · refine ⟨decide ((n2 : Int) < 1500), fun _ => by omega, flat _ ?_⟩
      rw [R_l32_Few]
      simp only [Zaa,Zab,Zac,Zad,Zae,Zaf,Zag,Zai,Zaj,Zak,Zap,Zas,Zat,Zay,Zaz,Zbc,Zbe,Zbh,Zbi,Zbj,Zbk,Zbl,Zbn,Zbo,Zbq,Zby,Zcg,Zcs,Zcu,Zcv,Zcw,Zcx,Zdb,Zdc,Zdd,List.set_cons_zero,List.set_cons_succ,List.getD_cons_zero,List.getD_cons_succ,Option.map_some,Zdh,Zdj,Zdx,Zeb,decide_false,List.length_cons,List.length_nil,if_true,Nat.reduceAdd,Nat.reduceSub,eq_self,true_and,List.length_cons,List.length_nil,List.replicate_succ,List.replicate_zero,List.cons_append,List.nil_append,List.nil_append,List.length_nil,l0,l1,na,ng,c1,c3,k2,k4,resAll,resVals,resVal,Option.some.injEq,Prod.mk.injEq,true_and,exists_eq']

theorem f_PackOf (ha : LiG (LiG LiA) t.acts av) (hg : LiR t.gotos gv) (hL0 : t.acts.length ≤ maxLen) (hL1 : t.gotos.length ≤ maxLen) (hL : ∀ r ∈ t.acts, r.length ≤ maxLen) (H : AHeap) : lim G0.cfg (.func 5) [.agg [av, gv]] H = some (.bool true, H) := by
  refine lim_flat rfl rfl P_l32_PackOf 1 (tab_fz ha hg) ?_ (fun _ => rfl) H
  have hk := knows
  obtain ⟨b, hb, c1⟩ := f_Few ha hg hL0 hL1 hL
  have bx := tab_box ha hg
  obtain ⟨A, hA⟩ : ∃ A, A = AObj.arr 0 2 true [[av, gv]] := ⟨_, rfl⟩
  have lT : ∀ l : AHeap, aload (A :: l) 2 true (.ptr 0 0 0 0) = some (.agg [av, gv]) := fun l => ld_full (b := true) (by rw [hA]; rfl) rfl
  cases b with
  | false =>
    rw [R_l32_PackOf]
    simp only [Zab,Zac,Zad,Zai,Zaj,Zak,Zam,Zar,Zay,Zaz,Zbi,Zbk,Zbn,Zbo,Zbr,Zcp,Zcq,Zcs,Zcu,Zcv,Zcw,Zcx,Zcz,Zda,List.set_cons_zero,List.set_cons_succ,List.getD_cons_zero,List.getD_cons_succ,Option.map_some,Zdr,Zeb,Bool.not_false,List.length_cons,List.length_nil,if_true,Nat.reduceAdd,Nat.reduceSub,eq_self,true_and,List.length_cons,List.length_nil,List.replicate_succ,List.replicate_zero,List.cons_append,List.nil_append,List.nil_append,List.length_nil,← hA,lT,c1,hk,resAll,resVals,resVal,Option.some.injEq,Prod.mk.injEq,true_and,exists_eq']
  | true =>
    have hn : t.ok → t.acts.length ≤ 1500 := fun k => by have := hb rfl; have := k.1.2.1; omega
    have fz : freeze [A] 1000 (.agg [av, gv]) = some (.agg [av, gv], true) := by
      have := tab_fz ha hg [A]
      simp only [mapO] at this
      cases e : freeze [A] 1000 (.agg [av, gv]) with
      | none => rw [e] at this; cases this
      | some x => rw [e] at this; simp at this; rw [this]
    obtain ⟨k1, k2⟩ := f_Of (h := [A]) ha hg hn fz (by simp [cellsOf])
    obtain ⟨q1, q2⟩ := r_Of ha hg hn
    have zc : cellsOf (.agg zeroP) = zeroP := rfl
    obtain ⟨B, hB⟩ : ∃ B, B = AObj.arr 0 10 true [zeroP] := ⟨_, rfl⟩
    have zl : zeroP.length = 10 := rfl
    have zz : [AV.int .i64 0, .int .i64 0, .nilS, .nilS, .nilS, .nilS, .nilS, .nilS, .nilS, .nilS] = zeroP := rfl
    -- what is stored and read again
    have key : ∀ (p : PackD) (cs ds : List AV) (hp : PackV p cs) (hq : PackV p ds) (h' : AHeap), 
        astore ([A] ++ h' ++ [B]) 10 (.ptr ([A] ++ h').length 0 0 0) (.agg cs) = some ([A] ++ h' ++ [AObj.arr 0 10 true [cs]]) ∧
        astore ([A] ++ h' ++ [AObj.arr 0 10 true [cs]] ++ [B]) 10 (.ptr ([A] ++ h' ++ [AObj.arr 0 10 true [cs]]).length 0 0 0) (.agg ds) = some ([A] ++ h' ++ [AObj.arr 0 10 true [cs]] ++ [AObj.arr 0 10 true [ds]]) ∧
        aload ([A] ++ h' ++ [AObj.arr 0 10 true [cs]] ++ [AObj.arr 0 10 true [ds]]) 10 true (.ptr ([A] ++ h').length 0 0 0) = some (.agg cs) ∧
        aload ([A] ++ h' ++ [AObj.arr 0 10 true [cs]] ++ [AObj.arr 0 10 true [ds]]) 10 true (.ptr ([A] ++ h' ++ [AObj.arr 0 10 true [cs]]).length 0 0 0) = some (.agg ds) := by
      intro p cs ds hp hq h'
      obtain ⟨p1, p2, p3⟩ := hp.cells
      obtain ⟨u1, u2, u3⟩ := hq.cells
      refine ⟨?_, ?_, ?_, ?_⟩
      · have s := st_full (h := [A] ++ h' ++ [B]) (i := ([A] ++ h').length) (ver := 0) (n := 10) (b := true) (z := zeroP) (l := cs) ((get_new _ _).trans (by rw [hB])) rfl p3 p1 p2
        rw [set_new] at s; exact s
      · have s := st_full (h := [A] ++ h' ++ [AObj.arr 0 10 true [cs]] ++ [B]) (i := ([A] ++ h' ++ [AObj.arr 0 10 true [cs]]).length) (ver := 0) (n := 10) (b := true) (z := zeroP) (l := ds) ((get_new _ _).trans (by rw [hB])) rfl u3 u1 u2
        rw [set_new] at s; exact s
      · exact ld_full (b := true) (get_app (get_new _ _) _) p3
      · exact ld_full (b := true) (get_new _ _) u3
    by_cases ok : t.ok
    · obtain ⟨cs, h', pv, e1⟩ := k1 ok
      obtain ⟨ds, qv, e2⟩ := q1 ok
      obtain ⟨a1, a2, a3, a4⟩ := key _ cs ds pv qv h'
      obtain ⟨z1, z2⟩ := packD_small ok (hn ok)
      have sm := r_Same pv qv z1 z2
      simp only [List.append_assoc,List.cons_append,List.nil_append,List.length_cons,List.length_append,List.length_nil] at a1 a2 a3 a4 e1
      have d0 : decide ((0 : Int) = 0) = true := rfl
      rw [R_l32_PackOf]
      simp only [Zaa,Zab,Zac,Zad,Zai,Zaj,Zak,Zas,Zay,Zaz,Zba,Zbb,Zbg,Zbi,Zbj,Zbk,Zbl,Zbm,Zbn,Zbo,Zbp,Zbq,Zbr,Zcf,Zcp,Zcq,Zcs,Zcu,Zcv,Zcw,Zcx,Zcy,Zcz,Zda,List.set_cons_zero,List.set_cons_succ,List.getD_cons_zero,List.getD_cons_succ,Option.map_some,Zdl,Zdr,Zeb,Zem,decide_true,Bool.not_true,List.getElem?_cons_zero,List.getElem?_cons_succ,List.length_cons,List.length_nil,if_true,Nat.reduceAdd,Nat.reduceSub,eq_self,true_and,List.length_cons,List.length_nil,List.replicate_succ,List.replicate_zero,List.cons_append,List.nil_append,List.append_assoc,List.cons_append,List.nil_append,List.length_cons,List.length_append,List.length_nil,zz,zl,← hA, ← hB,lT,c1,e1,e2,a1,a2,a3,a4,sm,hk,resAll,resVals,resVal,Option.some.injEq,Prod.mk.injEq,true_and,exists_eq']
    · obtain ⟨h', e1⟩ := k2 ok
      have e2 := q2 ok
      obtain ⟨a1, a2, a3, a4⟩ := key _ zeroP zeroP packZ_v packZ_v h'
      have sm := r_Same packZ_v packZ_v ⟨by decide, by decide, by decide, by decide⟩ ⟨by decide, by decide, by decide, by decide⟩
      rw [← hB] at a1 a2 a3 a4
      simp only [List.append_assoc,List.cons_append,List.nil_append,List.length_cons,List.length_append,List.length_nil] at a1 a2 a3 a4 e1
      have d0 : decide ((34 : Int) = 34) = true := rfl
      rw [R_l32_PackOf]
      simp only [Zaa,Zab,Zac,Zad,Zai,Zaj,Zak,Zas,Zay,Zaz,Zba,Zbb,Zbg,Zbi,Zbj,Zbk,Zbl,Zbm,Zbn,Zbo,Zbp,Zbq,Zbr,Zcf,Zcp,Zcq,Zcs,Zcu,Zcv,Zcw,Zcx,Zcy,Zcz,Zda,List.set_cons_zero,List.set_cons_succ,List.getD_cons_zero,List.getD_cons_succ,Option.map_some,Zdl,Zdr,Zeb,Zem,decide_true,Bool.not_true,List.getElem?_cons_zero,List.getElem?_cons_succ,List.length_cons,List.length_nil,if_true,Nat.reduceAdd,Nat.reduceSub,eq_self,true_and,List.length_cons,List.length_nil,List.replicate_succ,List.replicate_zero,List.cons_append,List.nil_append,List.append_assoc,List.cons_append,List.nil_append,List.length_cons,List.length_append,List.length_nil,zz,zl,← hA, ← hB,lT,c1,e1,e2,a1,a2,a3,a4,sm,hk,resAll,resVals,resVal,Option.some.injEq,Prod.mk.injEq,true_and,exists_eq']
end
end Go.Proofs.Ytkgndbhflehhhaa.Ai
