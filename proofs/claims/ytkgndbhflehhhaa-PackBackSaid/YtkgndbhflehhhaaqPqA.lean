/- PackOf: the law. -/
import Derived.Test.YtkgndbhflehhhaaqPrb
namespace Go.Proofs.Ytkgndbhflehhhaa.Ai
open Go Go.Proofs
set_option linter.unusedVariables false
set_option linter.unusedSimpArgs false
set_option maxRecDepth 10000
set_option maxHeartbeats 4000000

theorem len_bound {X : Type} : ∀ l : List (List X), ∃ S, ∀ r ∈ l, r.length ≤ S := by
  intro l
  induction l with
  | nil => exact ⟨0, fun _ h => by simp at h⟩
  | cons a l ih =>
    obtain ⟨S, hS⟩ := ih
    refine ⟨max a.length S, fun r hr => ?_⟩
    rcases List.mem_cons.1 hr with rfl | hr
    · omega
    · have := hS r hr; omega
theorem em15 (k : Nat) : ammx false [.int .i64 ((k : Nat) : Int), .int .i64 1500] = some (.int .i64 ((min k 1500 : Nat) : Int)) := by
  have : ammx false [.int .i64 ((k : Nat) : Int), .int .i64 1500] = some (.int .i64 (if (1500 : Int) < k then 1500 else k)) := by simp [ammx, amm]
  rw [this]
  congr 2
  split <;> omega

section
variable {t : TabD} {av gv : AV}
theorem few_1 (ha : LiG (LiG LiA) t.acts av) (hL : ∀ r ∈ t.acts, r.length ≤ maxLen) (i : Nat) (hi : i < t.acts.length) (N : Nat) (h : AHeap) (e0 : h[0]? = some (.arr 0 2 true [[av, gv]])) : ∀ (d j m n : Nat), t.acts[i].length = j + d → d < m → n ≤ 3100 →
    ∃ n', n' ≤ 3100 ∧ loopN (evalCode (lim G0.cfg) N B_l32_Few_1) m ⟨(.junk :: .ptr 0 0 0 0 :: .junk :: .int .i64 n :: .int .i64 i :: .int .i64 j :: .junk::.junk::.junk::.junk::.junk::.junk::.junk::.junk::.junk::.junk::.junk::.junk::.junk::.junk::.junk::.junk::.junk::.junk::.junk::.junk::.junk::.junk::.junk::.junk::.junk::.junk::.junk::.junk::.junk::.junk::.junk::.junk::.junk::.junk::.junk::.junk::.junk::.junk::.junk::.junk::.junk::.junk::.junk::.junk::.junk::.junk::.junk::.junk::.junk::.junk::.junk::.junk::.junk::.junk::.junk::.junk::.junk::.junk::.junk::.junk::.junk::.junk::.junk::.junk::.junk::.junk::.junk::.junk::.junk::.junk::.junk::.junk::.junk::.junk::.junk::.junk::.junk::.junk::.junk::.junk::.junk::.junk::.junk::.junk::.junk::.junk::.junk :: []), h⟩ = some (.exit 2, ⟨(.junk :: .ptr 0 0 0 0 :: .junk :: .int .i64 (n' : Nat) :: .int .i64 i :: .junk::.junk::.junk::.junk::.junk::.junk::.junk::.junk::.junk::.junk::.junk::.junk::.junk::.junk::.junk::.junk::.junk::.junk::.junk::.junk::.junk::.junk::.junk::.junk::.junk::.junk::.junk::.junk::.junk::.junk::.junk::.junk::.junk::.junk::.junk::.junk::.junk::.junk::.junk::.junk::.junk::.junk::.junk::.junk::.junk::.junk::.junk::.junk::.junk::.junk::.junk::.junk::.junk::.junk::.junk::.junk::.junk::.junk::.junk::.junk::.junk::.junk::.junk::.junk::.junk::.junk::.junk::.junk::.junk::.junk::.junk::.junk::.junk::.junk::.junk::.junk::.junk::.junk::.junk::.junk::.junk::.junk::.junk::.junk::.junk::.junk::.junk::.junk :: []), h⟩) := by
  have hl := hL _ (List.getElem_mem hi)
  obtain ⟨rv, hr, xr⟩ := ha.ix i hi
  obtain ⟨row, hrow⟩ : ∃ r, r = t.acts[i] := ⟨_, rfl⟩
  rw [← hrow] at hr hl ⊢
  rw [maxLen_eq] at hl
  have nr := hr.len
  have la0 := tab_a h e0
  intro d
  induction d with
  | zero =>
    intro j m n h1 h2 h3
    obtain ⟨m, rfl⟩ : ∃ q, m = q + 1 := ⟨m - 1, by omega⟩
    have h4 : ¬ ((j : Int) < row.length) := by omega
    refine ⟨n, h3, ?_⟩
    simp only [loop_e,EB_l32_Few_1,Zab,Zac,Zad,Zag,Zah,Zaj,Zak,Zal,Zas,Zav,Zay,Zbe,Zbh,Zbi,Zbj,Zbk,Zbl,Zbo,Zbq,Zby,Zcb,Zcg,Zcv,Zcw,Zcx,Zdb,Zdc,Zdd,List.set_cons_zero,List.set_cons_succ,List.getD_cons_zero,List.getD_cons_succ,Zdh,Zdx,decide_false,Nat.reduceAdd,eq_self,la0,xr,lv_p,nr,h4]
  | succ d ih =>
    intro j m n h1 h2 h3
    obtain ⟨m, rfl⟩ : ∃ q, m = q + 1 := ⟨m - 1, by omega⟩
    have h4 : j < row.length := by omega
    have h4' : (j : Int) < row.length := by omega
    by_cases c : (n : Int) < 1500
    · have hw := w64s (n := j) (by omega)
      obtain ⟨cv, hc, xc⟩ := hr.ix j h4
      have nc := hc.len
      have em := em15 row[j].length
      have hw2 := w64a (a := n) (b := min row[j].length 1500) (by omega)
      obtain ⟨n', k1, k2⟩ := ih (j + 1) m (n + min row[j].length 1500) (by omega) (by omega) (by omega)
      refine ⟨n', k1, ?_⟩
      rw [← k2]
      simp only [loop_e,EB_l32_Few_1,Zaa,Zab,Zac,Zad,Zae,Zag,Zaj,Zak,Zan,Zar,Zau,Zay,Zbb,Zbg,Zbi,Zbj,Zbk,Zbl,Zbo,Zbq,Zby,Zcb,Zcg,Zcl,Zcv,Zcw,Zcx,Zcz,Zda,Zdb,Zdc,Zdd,List.set_cons_zero,List.set_cons_succ,List.getD_cons_zero,List.getD_cons_succ,Zde,Zdh,Zdx,decide_true,Nat.reduceAdd,eq_self,la0,xr,lv_p,nr,h4',c,xc,nc,em,hw2,hw]
    · refine ⟨n, h3, ?_⟩
      simp only [loop_e,EB_l32_Few_1,Zab,Zac,Zad,Zag,Zah,Zaj,Zak,Zal,Zas,Zav,Zay,Zbb,Zbg,Zbi,Zbj,Zbk,Zbl,Zbo,Zbq,Zby,Zcb,Zcg,Zcv,Zcw,Zcx,Zdb,Zdc,Zdd,List.set_cons_zero,List.set_cons_succ,List.getD_cons_zero,List.getD_cons_succ,Zdh,Zdx,decide_true,decide_false,Nat.reduceAdd,eq_self,la0,xr,lv_p,nr,h4',c]
theorem few_0 (ha : LiG (LiG LiA) t.acts av) (hL0 : t.acts.length ≤ maxLen) (hL : ∀ r ∈ t.acts, r.length ≤ maxLen) (N : Nat) (hN : ∀ r ∈ t.acts, r.length < N) (h : AHeap) (e0 : h[0]? = some (.arr 0 2 true [[av, gv]])) : ∀ (d i m n : Nat), t.acts.length = i + d → d < m → n ≤ 3100 →
    ∃ n', n' ≤ 3100 ∧ loopN (evalCode (lim G0.cfg) N B_l32_Few_0) m ⟨(.junk :: .ptr 0 0 0 0 :: .junk :: .int .i64 n :: .int .i64 i :: .junk::.junk::.junk::.junk::.junk::.junk::.junk::.junk::.junk::.junk::.junk::.junk::.junk::.junk::.junk::.junk::.junk::.junk::.junk::.junk::.junk::.junk::.junk::.junk::.junk::.junk::.junk::.junk::.junk::.junk::.junk::.junk::.junk::.junk::.junk::.junk::.junk::.junk::.junk::.junk::.junk::.junk::.junk::.junk::.junk::.junk::.junk::.junk::.junk::.junk::.junk::.junk::.junk::.junk::.junk::.junk::.junk::.junk::.junk::.junk::.junk::.junk::.junk::.junk::.junk::.junk::.junk::.junk::.junk::.junk::.junk::.junk::.junk::.junk::.junk::.junk::.junk::.junk::.junk::.junk::.junk::.junk::.junk::.junk::.junk::.junk::.junk::.junk :: []), h⟩ = some (.exit 0, ⟨(.junk :: .ptr 0 0 0 0 :: .junk :: .int .i64 (n' : Nat) :: .junk::.junk::.junk::.junk::.junk::.junk::.junk::.junk::.junk::.junk::.junk::.junk::.junk::.junk::.junk::.junk::.junk::.junk::.junk::.junk::.junk::.junk::.junk::.junk::.junk::.junk::.junk::.junk::.junk::.junk::.junk::.junk::.junk::.junk::.junk::.junk::.junk::.junk::.junk::.junk::.junk::.junk::.junk::.junk::.junk::.junk::.junk::.junk::.junk::.junk::.junk::.junk::.junk::.junk::.junk::.junk::.junk::.junk::.junk::.junk::.junk::.junk::.junk::.junk::.junk::.junk::.junk::.junk::.junk::.junk::.junk::.junk::.junk::.junk::.junk::.junk::.junk::.junk::.junk::.junk::.junk::.junk::.junk::.junk::.junk::.junk::.junk::.junk::.junk :: []), h⟩) := by
  rw [maxLen_eq] at hL0
  have na := ha.len
  have la0 := tab_a h e0
  intro d
  induction d with
  | zero =>
    intro i m n h1 h2 h3
    obtain ⟨m, rfl⟩ : ∃ q, m = q + 1 := ⟨m - 1, by omega⟩
    have h4 : ¬ ((i : Int) < t.acts.length) := by omega
    refine ⟨n, h3, ?_⟩
    simp only [loop_e,EB_l32_Few_0,Zab,Zac,Zad,Zag,Zah,Zaj,Zak,Zal,Zas,Zav,Zay,Zbe,Zbh,Zbi,Zbj,Zbk,Zbl,Zbo,Zbq,Zby,Zcg,Zcv,Zcw,Zcx,Zdb,Zdc,Zdd,List.set_cons_zero,List.set_cons_succ,List.getD_cons_zero,List.getD_cons_succ,Zdh,Zdx,decide_false,Nat.reduceAdd,eq_self,la0,na,h4]
  | succ d ih =>
    intro i m n h1 h2 h3
    obtain ⟨m, rfl⟩ : ∃ q, m = q + 1 := ⟨m - 1, by omega⟩
    have h4 : i < t.acts.length := by omega
    have h4' : (i : Int) < t.acts.length := by omega
    by_cases c : (n : Int) < 1500
    · have hw := w64s (n := i) (by omega)
      have hw1 := w64s (n := n) (by omega)
      obtain ⟨rv, hr, xr⟩ := ha.ix i h4
      have nr := hr.len
      have em := em15 t.acts[i].length
      have hw2 := w64a (a := n + 1) (b := min t.acts[i].length 1500) (by omega)
      obtain ⟨n1, j1, j2⟩ := few_1 (gv := gv) ha hL i h4 N h e0 t.acts[i].length 0 N (n + 1 + min t.acts[i].length 1500) (by omega) (hN _ (List.getElem_mem h4)) (by omega)
      rw [z0] at j2
      obtain ⟨n', k1, k2⟩ := ih (i + 1) m n1 (by omega) (by omega) j1
      refine ⟨n', k1, ?_⟩
      rw [← k2]
      simp only [loop_e,EB_l32_Few_0,Zaa,Zab,Zac,Zad,Zae,Zaf,Zag,Zaj,Zak,Zan,Zap,Zar,Zat,Zau,Zay,Zbb,Zbg,Zbi,Zbj,Zbk,Zbl,Zbo,Zbq,Zby,Zcb,Zcg,Zcl,Zcv,Zcw,Zcx,Zcz,Zda,Zdb,Zdc,Zdd,List.set_cons_zero,List.set_cons_succ,List.getD_cons_zero,List.getD_cons_succ,Zde,Zdh,Zdx,decide_true,Nat.reduceAdd,eq_self,la0,na,h4',c,xr,lv_p,nr,em,hw1,hw2,j2,hw]
    · refine ⟨n, h3, ?_⟩
      simp only [loop_e,EB_l32_Few_0,Zab,Zac,Zad,Zag,Zah,Zaj,Zak,Zal,Zas,Zav,Zay,Zbb,Zbg,Zbi,Zbj,Zbk,Zbl,Zbo,Zbq,Zby,Zcg,Zcv,Zcw,Zcx,Zdb,Zdc,Zdd,List.set_cons_zero,List.set_cons_succ,List.getD_cons_zero,List.getD_cons_succ,Zdh,Zdx,decide_true,decide_false,Nat.reduceAdd,eq_self,la0,na,h4',c]
theorem few_2 (hg : LiR t.gotos gv) (hL0 : t.gotos.length ≤ maxLen) (N : Nat) (h : AHeap) (e0 : h[0]? = some (.arr 0 2 true [[av, gv]])) : ∀ (d i m n : Nat), t.gotos.length = i + d → d < m → n ≤ 3100 →
    ∃ n', n' ≤ 3100 ∧ loopN (evalCode (lim G0.cfg) N B_l32_Few_2) m ⟨(.junk :: .ptr 0 0 0 0 :: .junk :: .int .i64 n :: .junk::.junk :: .int .i64 i :: .junk::.junk::.junk::.junk::.junk::.junk::.junk::.junk::.junk::.junk::.junk::.junk::.junk::.junk::.junk::.junk::.junk::.junk::.junk::.junk::.junk::.junk::.junk::.junk::.junk::.junk::.junk::.junk::.junk::.junk::.junk::.junk::.junk::.junk::.junk::.junk::.junk::.junk::.junk::.junk::.junk::.junk::.junk::.junk::.junk::.junk::.junk::.junk::.junk::.junk::.junk::.junk::.junk::.junk::.junk::.junk::.junk::.junk::.junk::.junk::.junk::.junk::.junk::.junk::.junk::.junk::.junk::.junk::.junk::.junk::.junk::.junk::.junk::.junk::.junk::.junk::.junk::.junk::.junk::.junk::.junk::.junk::.junk::.junk::.junk::.junk :: []), h⟩ = some (.exit 4, ⟨(.junk::.junk::.junk :: .int .i64 (n' : Nat) :: .junk::.junk::.junk::.junk::.junk::.junk::.junk::.junk::.junk::.junk::.junk::.junk::.junk::.junk::.junk::.junk::.junk::.junk::.junk::.junk::.junk::.junk::.junk::.junk::.junk::.junk::.junk::.junk::.junk::.junk::.junk::.junk::.junk::.junk::.junk::.junk::.junk::.junk::.junk::.junk::.junk::.junk::.junk::.junk::.junk::.junk::.junk::.junk::.junk::.junk::.junk::.junk::.junk::.junk::.junk::.junk::.junk::.junk::.junk::.junk::.junk::.junk::.junk::.junk::.junk::.junk::.junk::.junk::.junk::.junk::.junk::.junk::.junk::.junk::.junk::.junk::.junk::.junk::.junk::.junk::.junk::.junk::.junk::.junk::.junk::.junk::.junk::.junk::.junk :: []), h⟩) := by
  rw [maxLen_eq] at hL0
  have na := hg.len
  have la0 := tab_g h e0
  intro d
  induction d with
  | zero =>
    intro i m n h1 h2 h3
    obtain ⟨m, rfl⟩ : ∃ q, m = q + 1 := ⟨m - 1, by omega⟩
    have h4 : ¬ ((i : Int) < t.gotos.length) := by omega
    refine ⟨n, h3, ?_⟩
    simp only [loop_e,EB_l32_Few_2,Zab,Zac,Zad,Zag,Zah,Zaj,Zak,Zal,Zas,Zav,Zay,Zbe,Zbh,Zbi,Zbj,Zbk,Zbl,Zbo,Zbq,Zby,Zcg,Zcv,Zcw,Zcx,Zdb,Zdc,Zdd,List.set_cons_zero,List.set_cons_succ,List.getD_cons_zero,List.getD_cons_succ,Zdh,Zdx,decide_false,Nat.reduceAdd,eq_self,la0,na,h4]
  | succ d ih =>
    intro i m n h1 h2 h3
    obtain ⟨m, rfl⟩ : ∃ q, m = q + 1 := ⟨m - 1, by omega⟩
    have h4 : i < t.gotos.length := by omega
    have h4' : (i : Int) < t.gotos.length := by omega
    by_cases c : (n : Int) < 1500
    · have hw := w64s (n := i) (by omega)
      have hw1 := w64s (n := n) (by omega)
      obtain ⟨rv, hr, xr⟩ := hg.ix i h4
      have nr := hr.len
      have em := em15 t.gotos[i].length
      have hw2 := w64a (a := n + 1) (b := min t.gotos[i].length 1500) (by omega)
      obtain ⟨n', k1, k2⟩ := ih (i + 1) m (n + 1 + min t.gotos[i].length 1500) (by omega) (by omega) (by omega)
      refine ⟨n', k1, ?_⟩
      rw [← k2]
      simp only [loop_e,EB_l32_Few_2,Zaa,Zab,Zac,Zad,Zae,Zag,Zaj,Zak,Zan,Zar,Zau,Zay,Zbb,Zbg,Zbi,Zbj,Zbk,Zbl,Zbo,Zbq,Zby,Zcb,Zcg,Zcl,Zcv,Zcw,Zcx,Zcz,Zda,Zdb,Zdc,Zdd,List.set_cons_zero,List.set_cons_succ,List.getD_cons_zero,List.getD_cons_succ,Zde,Zdh,Zdx,decide_true,Nat.reduceAdd,eq_self,la0,na,h4',c,xr,lv_p,nr,em,hw1,hw2,hw]
    · refine ⟨n, h3, ?_⟩
      simp only [loop_e,EB_l32_Few_2,Zab,Zac,Zad,Zag,Zah,Zaj,Zak,Zal,Zas,Zav,Zay,Zbb,Zbg,Zbi,Zbj,Zbk,Zbl,Zbo,Zbq,Zby,Zcg,Zcv,Zcw,Zcx,Zdb,Zdc,Zdd,List.set_cons_zero,List.set_cons_succ,List.getD_cons_zero,List.getD_cons_succ,Zdh,Zdx,decide_true,decide_false,Nat.reduceAdd,eq_self,la0,na,h4',c]
theorem f_Few (ha : LiG (LiG LiA) t.acts av) (hg : LiR t.gotos gv) (hL0 : t.acts.length ≤ maxLen) (hL1 : t.gotos.length ≤ maxLen) (hL : ∀ r ∈ t.acts, r.length ≤ maxLen) : ∃ b : Bool, (b = true → ¬ (60 < t.acts.length ∧ t.acts.length ≤ 4096)) ∧ ∀ H, lim G0.cfg (.func 18) [.agg [av, gv]] H = some (.bool b, H) := by
  obtain ⟨S, hS⟩ := len_bound t.acts
  have bx := tab_box ha hg
  obtain ⟨h1, hh1⟩ : ∃ h1 : AHeap, h1 = [.arr 0 2 true [[av, gv]]] := ⟨_, rfl⟩
  have e0 : h1[0]? = some (.arr 0 2 true [[av, gv]]) := by rw [hh1]; rfl
  have l0 := tab_a h1 e0
  have l1 := tab_g h1 e0
  have na := ha.len
  have ng := hg.len
  obtain ⟨n1, k1, k2⟩ := few_0 ha hL0 hL (t.acts.length + t.gotos.length + S + 1) (fun r hr => by have := hS r hr; omega) h1 e0 t.acts.length 0 (t.acts.length + t.gotos.length + S + 1) 0 (by omega) (by omega) (by omega)
  obtain ⟨n2, k3, k4⟩ := few_2 hg hL1 (t.acts.length + t.gotos.length + S + 1) h1 e0 t.gotos.length 0 (t.acts.length + t.gotos.length + S + 1) n1 (by omega) (by omega) k1
  rw [z0] at k2 k4
  rw [hh1] at l0 l1 k2 k4
  have flat := fun (b : Bool) (hr : ∃ h', runFn (lim G0.cfg) (t.acts.length + t.gotos.length + S + 1) A_l32_Few [.agg [av, gv]] [] = some (.bool b, h')) (H : AHeap) => lim_flat rfl rfl P_l32_Few _ (tab_fz ha hg) hr (fun _ => rfl) H
  by_cases c1 : (60 : Int) < t.acts.length
  · by_cases c2 : (t.acts.length : Int) ≤ 4096
    · refine ⟨false, fun e => (by cases e), flat false ?_⟩
      rw [R_l32_Few]
      simp only [Zab,Zac,Zad,Zai,Zaj,Zak,Zam,Zar,Zay,Zaz,Zbb,Zbd,Zbg,Zbi,Zbj,Zbk,Zbl,Zbn,Zbo,Zbq,Zby,Zcg,Zcs,Zcu,Zcv,Zcw,Zcx,List.set_cons_zero,List.set_cons_succ,List.getD_cons_zero,List.getD_cons_succ,Option.map_some,Zdi,Zdj,Zdx,Zeb,decide_true,List.length_cons,List.length_nil,if_true,Nat.reduceAdd,Nat.reduceSub,eq_self,true_and,List.length_cons,List.length_nil,List.replicate_succ,List.replicate_zero,List.cons_append,List.nil_append,List.nil_append,List.length_nil,l0,na,c1,c2,resAll,resVals,resVal,Option.some.injEq,Prod.mk.injEq,true_and,exists_eq']
    · by_cases c3 : (5000 : Int) < t.gotos.length
      · refine ⟨false, fun e => (by cases e), flat false ?_⟩
        rw [R_l32_Few]
        simp only [Zab,Zac,Zad,Zai,Zaj,Zak,Zam,Zar,Zay,Zaz,Zbb,Zbc,Zbg,Zbh,Zbi,Zbj,Zbk,Zbl,Zbn,Zbo,Zbq,Zby,Zcg,Zcs,Zcu,Zcv,Zcw,Zcx,List.set_cons_zero,List.set_cons_succ,List.getD_cons_zero,List.getD_cons_succ,Option.map_some,Zdi,Zdj,Zdx,Zeb,decide_true,decide_false,List.length_cons,List.length_nil,if_true,Nat.reduceAdd,Nat.reduceSub,eq_self,true_and,List.length_cons,List.length_nil,List.replicate_succ,List.replicate_zero,List.cons_append,List.nil_append,List.nil_append,List.length_nil,l0,l1,na,ng,c1,c2,c3,resAll,resVals,resVal,Option.some.injEq,Prod.mk.injEq,true_and,exists_eq']
      · refine ⟨decide ((n2 : Int) < 1500), fun _ => by omega, flat _ ?_⟩
        rw [R_l32_Few]
        simp only [Zaa,Zab,Zac,Zad,Zae,Zaf,Zag,Zai,Zaj,Zak,Zap,Zas,Zat,Zay,Zaz,Zbb,Zbc,Zbg,Zbh,Zbi,Zbj,Zbk,Zbl,Zbn,Zbo,Zbq,Zby,Zcg,Zcs,Zcu,Zcv,Zcw,Zcx,Zdb,Zdc,Zdd,List.set_cons_zero,List.set_cons_succ,List.getD_cons_zero,List.getD_cons_succ,Option.map_some,Zdh,Zdi,Zdj,Zdx,Zeb,decide_true,decide_false,List.length_cons,List.length_nil,if_true,Nat.reduceAdd,Nat.reduceSub,eq_self,true_and,List.length_cons,List.length_nil,List.replicate_succ,List.replicate_zero,List.cons_append,List.nil_append,List.nil_append,List.length_nil,l0,l1,na,ng,c1,c2,c3,k2,k4,resAll,resVals,resVal,Option.some.injEq,Prod.mk.injEq,true_and,exists_eq']
  · by_cases c3 : (5000 : Int) < t.gotos.length
    · refine ⟨false, fun e => (by cases e), flat false ?_⟩
      rw [R_l32_Few]
      simp only [Zab,Zac,Zad,Zai,Zaj,Zak,Zam,Zar,Zay,Zaz,Zbc,Zbe,Zbh,Zbi,Zbj,Zbk,Zbl,Zbn,Zbo,Zbq,Zby,Zcg,Zcs,Zcu,Zcv,Zcw,Zcx,List.set_cons_zero,List.set_cons_succ,List.getD_cons_zero,List.getD_cons_succ,Option.map_some,Zdj,Zdx,Zeb,decide_true,decide_false,List.length_cons,List.length_nil,if_true,Nat.reduceAdd,Nat.reduceSub,eq_self,true_and,List.length_cons,List.length_nil,List.replicate_succ,List.replicate_zero,List.cons_append,List.nil_append,List.nil_append,List.length_nil,l0,l1,na,ng,c1,c3,resAll,resVals,resVal,Option.some.injEq,Prod.mk.injEq,true_and,exists_eq']
    · refine ⟨decide ((n2 : Int) < 1500), fun _ => by omega, flat _ ?_⟩
      rw [R_l32_Few]
      simp only [Zaa,Zab,Zac,Zad,Zae,Zaf,Zag,Zai,Zaj,Zak,Zap,Zas,Zat,Zay,Zaz,Zbc,Zbe,Zbh,Zbi,Zbj,Zbk,Zbl,Zbn,Zbo,Zbq,Zby,Zcg,Zcs,Zcu,Zcv,Zcw,Zcx,Zdb,Zdc,Zdd,List.set_cons_zero,List.set_cons_succ,List.getD_cons_zero,List.getD_cons_succ,Option.map_some,Zdh,Zdj,Zdx,Zeb,decide_false,List.length_cons,List.length_nil,if_true,Nat.reduceAdd,Nat.reduceSub,eq_self,true_and,List.length_cons,List.length_nil,List.replicate_succ,List.replicate_zero,List.cons_append,List.nil_append,List.nil_append,List.length_nil,l0,l1,na,ng,c1,c3,k2,k4,resAll,resVals,resVal,Option.some.injEq,Prod.mk.injEq,true_and,exists_eq']

end
end Go.Proofs.Ytkgndbhflehhhaa.Ai
