/- pack.Lay: a row is placed. -/
import Derived.Test.YtkgndbhflehhhaamPlv
namespace Go.Proofs.Ytkgndbhflehhhaa.Ai
open Go Go.Proofs
open AV renaming junk → J
open List renaming getD_cons_zero → Q0, getD_cons_succ → Q1, length_cons → Q2, replicate → Q3, set_cons_zero → Q4, set_cons_succ → Q5, length_set → Q6, append_nil → Q7, length_nil → Q8
set_option linter.unusedVariables false
set_option linter.unusedSimpArgs false
set_option maxRecDepth 10000
set_option maxHeartbeats 4000000
def setX (l : List Int) (k : Nat) (x : Int) : List Int := (extL l (k + 1)).set k x
theorem setX_len (l : List Int) (k : Nat) (x : Int) : (setX l k x).length = max l.length (k + 1) := by rw [setX, Q6, extL_len]
def placeD (s : List Int × List Int) : List Int → Nat → Int → List Int × List Int
 | [], _, _ => s
 | x :: row, k, r => if x = 0 then placeD s row (k + 1) r else placeD (setX s.1 k x, setX s.2 k r) row (k + 1) r
section
variable {h : AHeap} {a b c d w : AV}
theorem c_ld2 (e : h[1]? = some (.arr 0 4 true [[a, b, c, d]])) : aload h 1 false (.ptr 1 0 0 2) = some c := by rw [ld_p h 1 1 0 0 2 false 4 true _ _ e rfl]; rfl
theorem c_ld3 (e : h[1]? = some (.arr 0 4 true [[a, b, c, d]])) : aload h 1 false (.ptr 1 0 0 3) = some d := by rw [ld_p h 1 1 0 0 3 false 4 true _ _ e rfl]; rfl
theorem c_ld1 (e : h[1]? = some (.arr 0 4 true [[a, b, c, d]])) : aload h 1 false (.ptr 1 0 0 1) = some b := by rw [ld_p h 1 1 0 0 1 false 4 true _ _ e rfl]; rfl
theorem c_st2 (e : h[1]? = some (.arr 0 4 true [[a, b, c, d]])) (hw : cellsOf w = [w] ∧ cellOk w = true) : astore h 1 (.ptr 1 0 0 2) w = some (h.set 1 (.arr 0 4 true [[a, b, w, d]])) := by
 obtain ⟨w1, w2⟩ := hw
 simp [astore, putCells, getArr, e, w1, w2]
theorem c_st3 (e : h[1]? = some (.arr 0 4 true [[a, b, c, d]])) (hw : cellsOf w = [w] ∧ cellOk w = true) : astore h 1 (.ptr 1 0 0 3) w = some (h.set 1 (.arr 0 4 true [[a, b, c, w]])) := by
 obtain ⟨w1, w2⟩ := hw
 simp [astore, putCells, getArr, e, w1, w2]
end
section
variable {row : List Int} {rv v0 v1 : AV}
theorem f_Lay_place (hr : Li row rv) (hm : row.length ≤ 1000000) (x b p : Nat) (hx : x ≤ 1000000) (hb : b + row.length ≤ 9000000) (hp : p ≠ 1) (N : Nat) (w62 w63 w64' : AV) :
  ∀ (d i m : Nat) (s : List Int × List Int) (h : AHeap) (vv kv : AV) (qv qk : Option Nat), row.length = i + d → d < m → h[1]? = some (.arr 0 4 true [[v0, v1, vv, kv]]) → h[p]? = some (.arr 0 1 true [[.int .i64 x]]) → GrowV s.1 vv h qv → GrowV s.2 kv h qk → s.1.length ≤ 9000000 → s.2.length ≤ 9000000 → (∀ i, qv = some i → 2 ≤ i ∧ i ≠ p) → (∀ i, qk = some i → 2 ≤ i ∧ i ≠ p) → (∀ i, qv = some i → qk ≠ some i) →
  ∃ (h' : AHeap) (vv' kv' : AV) (qv' qk' : Option Nat), loopN (evalCode (lim G0.cfg) N B_pack_Lay_4) m ⟨(J::J::.ptr 0 0 0 0 :: .ptr 1 0 0 0 :: .ptr 2 0 0 0::J::J::J::J::J::J::J::.ptr p 0 0 0::J::.int .i64 b::J::J::J::J::J::J::J::J::J::J::J::J::J::J::J::J::J::J::J::J::J::J::J::J::J::J::J::J::J::J::J::J::J::J::J::J::J::J::J::J::J::J::J::J::J::J::J::w62 :: w63 :: w64'::J::J::J::J::J::J::J::J::J::J::J::J::J::J::J::J::J::J::rv :: .int .i64 row.length :: .int .i64 i::J::J::J::J::J::J::J::J::J::J::J::J::J::J::J::J::J::J::J::J::J::J::J::J::J::J::J::J::J::J::J::J::J::J::J::J::J::J::J::J::[]), h⟩ = some (.exit 8, ⟨(J::J::.ptr 0 0 0 0 :: .ptr 1 0 0 0 :: .ptr 2 0 0 0::J::J::J::J::J::J::J::J::J::J::J::J::J::J::J::J::J::J::J::J::J::J::J::J::J::J::J::J::J::J::J::J::J::J::J::J::J::J::J::J::J::J::J::J::J::J::J::J::J::J::J::J::J::J::J::J::J::w62 :: w63 :: w64'::J::J::J::J::J::J::J::J::J::J::J::J::J::J::J::J::J::J::J::J::J::J::J::J::J::J::J::J::J::J::J::J::J::J::J::J::J::J::J::J::J::J::J::J::J::J::J::J::J::J::J::J::J::J::J::J::J::J::J::J::J::[]), h'⟩) ∧
   h'[1]? = some (.arr 0 4 true [[v0, v1, vv', kv']]) ∧ GrowV (placeD s (row.drop i) (b + i) ((x + 1 : Nat) : Int)).1 vv' h' qv' ∧ GrowV (placeD s (row.drop i) (b + i) ((x + 1 : Nat) : Int)).2 kv' h' qk' ∧
   (∀ (j : Nat) (o : AObj), h[j]? = some o → j ≠ 1 → qv ≠ some j → qk ≠ some j → h'[j]? = some o) ∧ (qv' = qv ∨ ∃ i, qv' = some i ∧ h.length ≤ i) ∧ (qk' = qk ∨ ∃ i, qk' = some i ∧ h.length ≤ i) ∧ (∀ i, qv' = some i → qk' ≠ some i) ∧ h.length ≤ h'.length := by
 intro d
 induction d with
 | zero =>
  intro i m s h vv kv qv qk h1 h2 e1 e2 gv gk l1 l2 d1 d2 d3
  obtain ⟨m, rfl⟩ : ∃ q, m = q + 1 := ⟨m - 1, by omega⟩
  have h3 : ¬ ((i : Int) < row.length) := by omega
  have q1 : row.drop i = [] := List.drop_eq_nil_iff.2 (by omega)
  rw [q1]
  refine ⟨h, vv, kv, qv, qk, ?_, e1, gv, gk, fun _ _ e _ _ _ => e, .inl rfl, .inl rfl, d3, Nat.le_refl _⟩
  simp only [loop_e,EB_pack_Lay_4,Zab,Zac,Zad,Zag,Zah,Zaj,Zak,Zal,Zas,Zav,Zay,Zbi,Zbq,Zcv,Zcx,Zdb,Zdc,Zdd,Q4,Q5,Q0,Q1,Zdh,decide_false,eq_self,h3]
 | succ d ih =>
  intro i m s h vv kv qv qk h1 h2 e1 e2 gv gk l1 l2 d1 d2 d3
  obtain ⟨m, rfl⟩ : ∃ q, m = q + 1 := ⟨m - 1, by omega⟩
  have h3 : i < row.length := by omega
  have h3' : (i : Int) < row.length := by omega
  have hw := w64s (n := i) (by omega)
  have hw2 := w64a (a := b) (b := i) (by omega)
  have hw3 := w64s (n := b + i) (by omega)
  have hw4 := w64s (n := x) (by omega)
  have q1 : row.drop i = row[i] :: row.drop (i + 1) := List.drop_eq_getElem_cons h3
  have xa := fun h => hr.ix h .i64 i h3
  have lv : ∀ (h : AHeap) (z : Int), aload h 1 false (.vptr [.int .i64 z] 0) = some (.int .i64 z) := fun _ _ => rfl
  rw [q1, placeD]
  by_cases z : row[i] = 0
  case pos =>
   have g2 : decide (row[i] = 0) = true := decide_eq_true z
   rw [if_pos z]
   obtain ⟨h', vv', kv', qv', qk', e, r⟩ := ih (i + 1) m s h vv kv qv qk (by omega) (by omega) e1 e2 gv gk l1 l2 d1 d2 d3
   refine ⟨h', vv', kv', qv', qk', ?_, r⟩
   rw [← e]
   simp only [loop_e,EB_pack_Lay_4,Zaa,Zab,Zac,Zad,Zae,Zag,Zah,Zaj,Zak,Zal,Zap,Zar,Zau,Zay,Zbi,Zbk,Zbo,Zbq,Zcb,Zcv,Zcw,Zcx,Zdb,Zdc,Zdd,Q4,Q5,Q0,Q1,Zde,Zdh,Zdl,Zen,decide_true,eq_self,h3',xa,g2,hw]
  case neg =>
   have g2 : decide (row[i] = 0) = false := decide_eq_false z
   rw [if_neg z]
   obtain ⟨kv1, H1, qk1, k1, gk1, k2, k3, k4⟩ := f_grown gk (b + i + 1) (by omega) (by omega)
   have gv' : GrowV s.1 vv H1 qv := gv.frame fun j o _ e => k2 j o e
   obtain ⟨vv1, H2, qv1, v1', gv1, v2, v3, v4⟩ := f_grown gv' (b + i + 1) (by omega) (by omega)
   have a1 := k2 1 _ e1
   have a2 := v2 1 _ a1
   have b1 := k2 p _ e2
   have b2 := v2 p _ b1
   have cv := gv1.cell
   have ck := gk1.cell
   have len1 : 1 < h.length := get_len e1
   have lenp : p < h.length := get_len e2
   -- where the rows lie
   have nk : ∀ j, qk1 = some j → 2 ≤ j ∧ j ≠ p := fun j e => by
    rcases k3 with q | q
    ·exact d2 j (q ▸ e)
    ·rw [q] at e; cases e; omega
   have nv : ∀ j, qv1 = some j → 2 ≤ j ∧ j ≠ p := fun j e => by
    rcases v3 with q | q
    ·exact d1 j (q ▸ e)
    ·rw [q] at e; cases e; omega
   have nvk : ∀ j, qv1 = some j → qk1 ≠ some j := fun j e f => by
    rcases v3 with q | q
    ·rcases k3 with q2 | q2
     ·exact d3 j (q ▸ e) (q2 ▸ f)
     ·rw [q2] at f; cases f
      rw [q] at e
      rw [e] at gv
      have := gv.lt
      omega
    ·rw [q] at e; cases e
     rw [f] at gk1
     have := gk1.lt
     omega
   have gk2 : GrowV (extL s.2 (b + i + 1)) kv1 H2 qk1 := gk1.frame fun j o _ e => v2 j o e
   have c3 := c_st3 a2 ck
   have a3 := get_set_eq (y := AObj.arr 0 4 true [[v0, v1, vv, kv1]]) a2
   have c2 := c_st2 a3 cv
   rw [set_set] at c2
   obtain ⟨H4, hH4⟩ : ∃ H, H = H2.set 1 (.arr 0 4 true [[v0, v1, vv1, kv1]]) := ⟨_, rfl⟩
   rw [← hH4] at c2
   have a4 : H4[1]? = some (.arr 0 4 true [[v0, v1, vv1, kv1]]) := by rw [hH4]; exact get_set_eq a2
   have fr4 : ∀ (j : Nat) (o : AObj), H2[j]? = some o → j ≠ 1 → H4[j]? = some o := fun j o e n => by rw [hH4]; exact get_set_ne e n.symm
   have b4 := fr4 p _ b2 hp
   have gv4 : GrowV (extL s.1 (b + i + 1)) vv1 H4 qv1 := gv1.frame fun j o f e => fr4 j o e (by have := nv j f; omega)
   have gk4 : GrowV (extL s.2 (b + i + 1)) kv1 H4 qk1 := gk2.frame fun j o f e => fr4 j o e (by have := nk j f; omega)
   have lv4 : b + i < (extL s.1 (b + i + 1)).length := by rw [extL_len]; omega
   have lk4 : b + i < (extL s.2 (b + i + 1)).length := by rw [extL_len]; omega
   obtain ⟨iv, qiv, xv, _⟩ := gv4.ix lv4
   obtain ⟨ik, qik, xk, _⟩ := gk4.ix lk4
   rw [qiv] at gv4 nv nvk
   rw [qik] at gk4 nk nvk
   have hvk : ik ≠ iv := fun e => nvk iv rfl (by rw [e])
   obtain ⟨H5, s5, gv5, f5, n5⟩ := gv4.put lv4 row[i]
   have gk5 : GrowV (extL s.2 (b + i + 1)) kv1 H5 (some ik) := gk4.frame fun j o f e => f5 j o e (by cases f; exact hvk)
   obtain ⟨ik', qik', xk5, _⟩ := gk5.ix lk4
   cases qik'
   have a5 := f5 1 _ a4 (by have := nv iv rfl; omega)
   have b5 := f5 p _ b4 (by have := nv iv rfl; omega)
   obtain ⟨H6, s6, gk6, f6, n6⟩ := gk5.put lk4 ((x + 1 : Nat) : Int)
   have gv6 : GrowV (setX s.1 (b + i) row[i]) vv1 H6 (some iv) := gv5.frame fun j o f e => f6 j o e (by cases f; exact hvk.symm)
   have a6 := f6 1 _ a5 (by have := nk ik rfl; omega)
   have b6 := f6 p _ b5 (by have := nk ik rfl; omega)
   have lenH : H6.length = H2.length := by rw [n6, n5, hH4, Q6]
   obtain ⟨h', vv', kv', qv', qk', e, r1, r2, r3, r4, r5, r6, r7, r8⟩ := ih (i + 1) m (setX s.1 (b + i) row[i], setX s.2 (b + i) ((x + 1 : Nat) : Int)) H6 vv1 kv1 (some iv) (some ik) (by omega) (by omega) a6 b6 gv6 gk6 (by rw [setX_len]; omega) (by rw [setX_len]; omega) (fun j f => by cases f; exact nv iv rfl) (fun j f => by cases f; exact nk ik rfl) (fun j f => by cases f; exact nvk iv rfl)
   have kv_old : some ik = qk ∨ h.length ≤ ik := by
    rcases k3 with q | q
    ·left; rw [← qik, q]
    ·right; rw [q] at qik; cases qik; exact Nat.le_refl _
   have vv_old : some iv = qv ∨ h.length ≤ iv := by
    rcases v3 with q | q
    ·left; rw [← qiv, q]
    ·right; rw [q] at qiv; cases qiv; exact k4
   refine ⟨h', vv', kv', qv', qk', ?_, r1, r2, r3, fun j o e n1 n2 n3 => ?_, ?_, ?_, r7, by omega⟩
   ·rw [← e]
    have la := c_ld3 e1
    have lb := c_ld2 e1
    have la1 := c_ld2 a1
    have la4 := c_ld2 a4
    have lb4 := c_ld3 a4
    have lb5 := c_ld3 a5
    have lx4 : aload H4 1 false (.ptr p 0 0 0) = some (.int .i64 x) := by rw [ld_p H4 1 p 0 0 0 false 1 true _ _ b4 rfl]; rfl
    have lx5 : aload H5 1 false (.ptr p 0 0 0) = some (.int .i64 x) := by rw [ld_p H5 1 p 0 0 0 false 1 true _ _ b5 rfl]; rfl
    simp only [loop_e,EB_pack_Lay_4,Zaa,Zab,Zac,Zad,Zae,Zag,Zaj,Zak,Zan,Zar,Zas,Zau,Zay,Zaz,Zba,Zbi,Zbk,Zbo,Zbp,Zbq,Zby,Zcb,Zcp,Zcq,Zcv,Zcw,Zcx,Zcy,Zcz,Zda,Zdb,Zdc,Zdd,Q4,Q5,Q0,Q1,Zde,Zdh,Zdl,Zdx,Zen,decide_true,Nat.reduceAdd,eq_self,List.cons_append,List.nil_append,ED_pack_Lay_0,EQ_pack_Lay_0_0,EQ_pack_Lay_0_1,EQ_pack_Lay_0_2,EQ_pack_Lay_0_3,EQ_pack_Lay_0_4,EQ_pack_Lay_0_5,EQ_pack_Lay_0_6,EQ_pack_Lay_0_7,EQ_pack_Lay_0_8,EQ_pack_Lay_0_9,EQ_pack_Lay_0_10,EQ_pack_Lay_0_11,EQ_pack_Lay_0_12,EQ_pack_Lay_0_13,EQ_pack_Lay_0_14,EQ_pack_Lay_0_15,EQ_pack_Lay_0_16,EQ_pack_Lay_0_17,EQ_pack_Lay_0_18,EQ_pack_Lay_0_19,EQ_pack_Lay_0_20,dq_s,ds_n,ds_c,dwf_s,Fst_eq,ED_pack_Lay_1,EQ_pack_Lay_1_0,EQ_pack_Lay_1_1,EQ_pack_Lay_1_2,EQ_pack_Lay_1_3,EQ_pack_Lay_1_4,EQ_pack_Lay_1_5,EQ_pack_Lay_1_6,EQ_pack_Lay_1_7,EQ_pack_Lay_1_8,EQ_pack_Lay_1_9,EQ_pack_Lay_1_10,EQ_pack_Lay_1_11,EQ_pack_Lay_1_12,EQ_pack_Lay_1_13,EQ_pack_Lay_1_14,EQ_pack_Lay_1_15,EQ_pack_Lay_1_16,EQ_pack_Lay_1_17,EQ_pack_Lay_1_18,EQ_pack_Lay_1_19,EQ_pack_Lay_1_20,EQ_pack_Lay_1_21,EQ_pack_Lay_1_22,EQ_pack_Lay_1_23,dq_s,ds_n,ds_c,dwf_s,Fst_eq,h3',xa,g2,hw,hw2,hw3,hw4,la,lb,la1,k1,v1',c3,c2,la4,lb4,lb5,lx4,lx5,xv,xk5,s5,s6]
   ·have jl : j < h.length := get_len e
    refine r4 j o (f6 j o (f5 j o (fr4 j o (v2 j o (k2 j o e)) n1) fun e => ?_) fun e => ?_) n1 (fun e => ?_) (fun e => ?_)
    ·subst e; rcases vv_old with q | q
     ·exact n2 q.symm
     ·omega
    ·subst e; rcases kv_old with q | q
     ·exact n3 q.symm
     ·omega
    ·cases e; rcases vv_old with q | q
     ·exact n2 q.symm
     ·omega
    ·cases e; rcases kv_old with q | q
     ·exact n3 q.symm
     ·omega
   ·rcases r5 with q | ⟨j, q, q2⟩
    ·rcases vv_old with q3 | q3
     ·exact .inl (q.trans q3)
     ·exact .inr ⟨iv, q, q3⟩
    ·exact .inr ⟨j, q, by omega⟩
   ·rcases r6 with q | ⟨j, q, q2⟩
    ·rcases kv_old with q3 | q3
     ·exact .inl (q.trans q3)
     ·exact .inr ⟨ik, q, q3⟩
    ·exact .inr ⟨j, q, by omega⟩
end
end Go.Proofs.Ytkgndbhflehhhaa.Ai
namespace Go.Proofs.Ytkgndbhflehhhaa.Ai
open Go Go.Proofs
open AV renaming junk → J
open List renaming getD_cons_zero → Q0, getD_cons_succ → Q1, length_cons → Q2, replicate → Q3, set_cons_zero → Q4, set_cons_succ → Q5, length_set → Q6, append_nil → Q7, length_nil → Q8
set_option linter.unusedVariables false
set_option linter.unusedSimpArgs false
set_option maxRecDepth 10000
set_option maxHeartbeats 4000000
theorem placeD_len : ∀ (row : List Int) (s : List Int × List Int) (k : Nat) (r : Int), s.1.length = s.2.length → (placeD s row k r).1.length = (placeD s row k r).2.length ∧ (placeD s row k r).1.length ≤ max s.1.length (k + row.length) := by
 intro row
 induction row with
 | nil => intro s k r h; exact ⟨h, by rw [placeD]; omega⟩
 | cons x row ih =>
  intro s k r h
  rw [placeD]
  by_cases z : x = 0
  ·rw [if_pos z]
   obtain ⟨h1, h2⟩ := ih s (k + 1) r h
   refine ⟨h1, ?_⟩
   rw [Q2]; omega
  ·rw [if_neg z]
   obtain ⟨h1, h2⟩ := ih (setX s.1 k x, setX s.2 k r) (k + 1) r (by simp only [setX_len,h])
   refine ⟨h1, ?_⟩
   simp only [setX_len] at h2
   rw [Q2]; omega
def layStep (own : List (List Int)) (s : List Int × List Int × List Int) (x : Int) : List Int × List Int × List Int :=
 (s.1.set x.toNat ((baseD s.2.2 (own.getD x.toNat []) : Nat) : Int), placeD s.2 (own.getD x.toNat []) (baseD s.2.2 (own.getD x.toNat [])) (x + 1))
theorem st_newI (h : AHeap) (m n : Int) : astore (h ++ [.arr 0 1 true [[.int .i64 m]]]) 1 (.ptr h.length 0 0 0) (.int .i64 n) = some (h ++ [.arr 0 1 true [[.int .i64 n]]]) := by
 simp [astore, putCells, getArr, cellsOf, cellOk]
section
variable {own : List (List Int)} {cs : List (List AV)} {ov v0 : AV} {qo : Option Nat} {ord : List Int}
theorem f_Lay_2 (hc : RowsC own cs) (M : Nat) (hM : ∀ r ∈ own, r.length ≤ M) (hM1 : M ≤ 1000000) (hM2 : own.length * M + M ≤ 9000000) (hn : own.length ≤ 1000000) (hol : ord.length = own.length) (hom : ∀ x ∈ ord, 0 ≤ x ∧ x < own.length)
  (L Lb T N : Nat) (hN : 9000001 ≤ N) (hL : L < T) (hLb : Lb < T) (hLL : L ≠ Lb) (hT : 3 ≤ T) (hL3 : 3 ≤ L) (hLb3 : 3 ≤ Lb) (hqo : ∀ i, qo = some i → i < T ∧ 3 ≤ i ∧ i ≠ Lb) :
  ∀ (d i m : Nat) (s : List Int × List Int × List Int) (h : AHeap) (vv kv : AV) (qv qk : Option Nat), ord.length = i + d → d < m →
   h[1]? = some (.arr 0 4 true [[v0, .hsl Lb 0 0 own.length none, vv, kv]]) → h[2]? = some (.arr 0 1 true [[ov]]) → OwnG 1 cs ov h qo → h[L]? = some (.arr 0 1 true (eIs ord)) → h[Lb]? = some (.arr 0 1 true (eIs s.1)) → s.1.length = own.length →
   GrowV s.2.1 vv h qv → GrowV s.2.2 kv h qk → s.2.1.length = s.2.2.length → s.2.1.length ≤ i * M → (∀ i, qv = some i → T ≤ i) → (∀ i, qk = some i → T ≤ i) → (∀ i, qv = some i → qk ≠ some i) → T ≤ h.length →
   ∃ (h' : AHeap) (vv' kv' : AV) (qv' qk' : Option Nat), loopN (evalCode (lim G0.cfg) N B_pack_Lay_2) m ⟨(J::J::.ptr 0 0 0 0 :: .ptr 1 0 0 0 :: .ptr 2 0 0 0::J::J::J::J::J::J::J::J::J::J::J::J::J::J::J::J::J::J::J::J::J::J::J::J::J::J::J::J::J::J::J::J::J::J::J::J::J::J::J::J::J::J::J::J::J::J::J::J::J::J::J::J::J::J::J::J::J::.hsl L 0 0 own.length none :: .int .i64 own.length :: .int .i64 i::J::J::J::J::J::J::J::J::J::J::J::J::J::J::J::J::J::J::J::J::J::J::J::J::J::J::J::J::J::J::J::J::J::J::J::J::J::J::J::J::J::J::J::J::J::J::J::J::J::J::J::J::J::J::J::J::J::J::J::J::J::[]), h⟩ = some (.exit 4, ⟨(J::J::.ptr 0 0 0 0 :: .ptr 1 0 0 0::J::J::J::J::J::J::J::J::J::J::J::J::J::J::J::J::J::J::J::J::J::J::J::J::J::J::J::J::J::J::J::J::J::J::J::J::J::J::J::J::J::J::J::J::J::J::J::J::J::J::J::J::J::J::J::J::J::J::J::J::J::J::J::J::J::J::J::J::J::J::J::J::J::J::J::J::J::J::J::J::J::J::J::J::J::J::J::J::J::J::J::J::J::J::J::J::J::J::J::J::J::J::J::J::J::J::J::J::J::J::J::J::J::J::J::J::J::J::J::J::J::J::[]), h'⟩) ∧
    h'[1]? = some (.arr 0 4 true [[v0, .hsl Lb 0 0 own.length none, vv', kv']]) ∧ h'[Lb]? = some (.arr 0 1 true (eIs ((ord.drop i).foldl (layStep own) s).1)) ∧ ((ord.drop i).foldl (layStep own) s).1.length = own.length ∧ GrowV ((ord.drop i).foldl (layStep own) s).2.1 vv' h' qv' ∧ GrowV ((ord.drop i).foldl (layStep own) s).2.2 kv' h' qk' ∧
    (∀ (j : Nat) (o : AObj), j < T → j ≠ 1 → j ≠ Lb → h[j]? = some o → h'[j]? = some o) ∧ (∀ i, qv' = some i → T ≤ i) ∧ (∀ i, qk' = some i → T ≤ i) ∧ (∀ i, qv' = some i → qk' ≠ some i) ∧ h.length ≤ h'.length := by
 intro d
 induction d with
 | zero =>
  intro i m s h vv kv qv qk h1 h2 e1 e2 ho eL eb lb gv gk l1 l2 d1 d2 d3 hl
  obtain ⟨m, rfl⟩ : ∃ q, m = q + 1 := ⟨m - 1, by omega⟩
  have h3 : ¬ ((i : Int) < own.length) := by omega
  have q1 : ord.drop i = [] := List.drop_eq_nil_iff.2 (by omega)
  rw [q1, List.foldl_nil]
  refine ⟨h, vv, kv, qv, qk, ?_, e1, eb, lb, gv, gk, fun _ _ _ _ _ e => e, d1, d2, d3, Nat.le_refl _⟩
  simp only [loop_e,EB_pack_Lay_2,Zab,Zac,Zad,Zag,Zah,Zaj,Zak,Zal,Zas,Zav,Zay,Zbi,Zbq,Zcv,Zcx,Zdb,Zdc,Zdd,Q4,Q5,Q0,Q1,Zdh,decide_false,eq_self,h3]
 | succ d ih =>
  intro i m s h vv kv qv qk h1 h2 e1 e2 ho eL eb lb gv gk l1 l2 d1 d2 d3 hl
  obtain ⟨m, rfl⟩ : ∃ q, m = q + 1 := ⟨m - 1, by omega⟩
  have h3 : i < ord.length := by omega
  have h3' : (i : Int) < own.length := by omega
  have hw := w64s (n := i) (by omega)
  have q1 : ord.drop i = ord[i] :: ord.drop (i + 1) := List.drop_eq_getElem_cons h3
  have hx := hom _ (List.getElem_mem h3)
  obtain ⟨a, ha⟩ : ∃ a : Nat, ord[i] = (a : Int) := ⟨ord[i].toNat, by omega⟩
  have x1 := fun k => ix_hv (n := own.length) (c := none) eL (k := k) (j := i) (by omega)
  have eL' : h[L]? = some (.arr 0 1 true (eIs ord ++ [])) := by rw [Q7]; exact eL
  have x2 := ldI eL' h3
  rw [ha] at hx x2
  have hao : a < own.length := by omega
  have gd : own.getD a [] = own[a] := by simp [hao]
  have hmr := hM _ (List.getElem_mem hao)
  have hmul : (i + 1) * M ≤ own.length * M := Nat.mul_le_mul_right M (by omega)
  have hsucc : (i + 1) * M = i * M + M := Nat.succ_mul i M
  rw [q1, List.foldl_cons, ha]
  -- the row's number, boxed
  obtain ⟨H1, hH1⟩ : ∃ H, H = h ++ [AObj.arr 0 1 true [[.int .i64 a]]] := ⟨_, rfl⟩
  have fr1 : ∀ (j : Nat) (o : AObj), h[j]? = some o → H1[j]? = some o := fun j o e => by rw [hH1]; exact get_app e _
  have sn := st_newI h 0 a
  rw [← hH1] at sn
  have ep : H1[h.length]? = some (.arr 0 1 true [[.int .i64 a]]) := by rw [hH1]; exact get_new _ _
  have a1 := fr1 1 _ e1
  have a2 := fr1 2 _ e2
  have ab := fr1 Lb _ eb
  have ho1 : OwnG 1 cs ov H1 qo := ho.frame fun j o _ e => fr1 j o e
  have gv1 : GrowV s.2.1 vv H1 qv := gv.frame fun j o _ e => fr1 j o e
  have gk1 : GrowV s.2.2 kv H1 qk := gk.frame fun j o _ e => fr1 j o e
  have bs := f_Lay_base a2 ho1 hc a hao (by omega) ep a1 gk1 (by omega) N (.hsl L 0 0 own.length none) (.int .i64 own.length) (.int .i64 i) s.2.2.length 0 N (by omega) (by omega) (by omega)
  rw [z0] at bs
  obtain ⟨b, hb⟩ : ∃ b, b = baseD s.2.2 own[a] := ⟨_, rfl⟩
  have bs' : baseGo s.2.2 own[a] s.2.2.length 0 = b := hb.symm
  rw [bs'] at bs
  have hb1 : b ≤ s.2.2.length := by rw [hb]; exact baseD_le _ _
  -- its base
  have lb1 := c_ld1 a1
  have lp1 : aload H1 1 false (.ptr h.length 0 0 0) = some (.int .i64 a) := by rw [ld_p H1 1 h.length 0 0 0 false 1 true _ _ ep rfl]; rfl
  have xb := fun k => ix_hv (n := own.length) (c := none) ab (k := k) (j := a) (by omega)
  have ab' : H1[Lb]? = some (.arr 0 1 true (eIs s.1 ++ [])) := by rw [Q7]; exact ab
  have sb := stI ab' (j := a) (by omega) (b : Int)
  rw [Q7] at sb
  obtain ⟨H2, hH2⟩ : ∃ H, H = H1.set Lb (.arr 0 1 true (eIs (s.1.set a (b : Int)))) := ⟨_, rfl⟩
  rw [← hH2] at sb
  have fr2 : ∀ (j : Nat) (o : AObj), j ≠ Lb → H1[j]? = some o → H2[j]? = some o := fun j o n e => by rw [hH2]; exact get_set_ne e n.symm
  have b1 := fr2 1 _ (by omega) a1
  have b2 := fr2 2 _ (by omega) a2
  have bL := fr2 L _ hLL (fr1 L _ eL)
  have bb : H2[Lb]? = some (.arr 0 1 true (eIs (s.1.set a (b : Int)))) := by rw [hH2]; exact get_set_eq ab
  have bp := fr2 h.length _ (by omega) ep
  have ho2 : OwnG 1 cs ov H2 qo := ho1.frame fun j o f e => fr2 j o (hqo j f).2.2 e
  have gv2 : GrowV s.2.1 vv H2 qv := gv1.frame fun j o f e => fr2 j o (by have := d1 j f; omega) e
  have gk2 : GrowV s.2.2 kv H2 qk := gk1.frame fun j o f e => fr2 j o (by have := d2 j f; omega) e
  obtain ⟨rv, r1, r2⟩ := hc.2 a hao
  obtain ⟨pp, p1, p2⟩ := ho2.ix1 r1
  have lo2 : aload H2 1 false (.ptr 2 0 0 0) = some ov := by rw [ld_p H2 1 2 0 0 0 false 1 true _ _ b2 rfl]; rfl
  have lp2 : aload H2 1 false (.ptr h.length 0 0 0) = some (.int .i64 a) := by rw [ld_p H2 1 h.length 0 0 0 false 1 true _ _ bp rfl]; rfl
  have lr := r2.len H2
  have lenH2 : H2.length = h.length + 1 := by rw [hH2, Q6, hH1]; simp
  have ne_v : ∀ j, qv = some j → j < h.length := fun j f => by rw [f] at gv; exact gv.lt
  have ne_k : ∀ j, qk = some j → j < h.length := fun j f => by rw [f] at gk; exact gk.lt
  obtain ⟨H3, vv3, kv3, qv3, qk3, e, c1, c2, c3, c4, c5, c6, c7, c8⟩ := f_Lay_place r2 (by omega) a b h.length (by omega) (by omega) (by omega) N (.hsl L 0 0 own.length none) (.int .i64 own.length) (.int .i64 i) own[a].length 0 N s.2 H2 vv kv qv qk (by omega) (by omega) b1 bp gv2 gk2 (by omega) (by omega) (fun j f => ⟨by have := d1 j f; omega, by have := ne_v j f; omega⟩) (fun j f => ⟨by have := d2 j f; omega, by have := ne_k j f; omega⟩) d3
  rw [z0] at e
  rw [List.drop_zero, Nat.add_zero] at c2 c3
  have es : layStep own s ((a : Nat) : Int) = (s.1.set a (b : Int), placeD s.2 own[a] b ((a + 1 : Nat) : Int)) := by
   simp only [layStep,Int.toNat_natCast,gd, ← hb]
   rfl
  have pl := placeD_len own[a] s.2 b ((a + 1 : Nat) : Int) l1
  have fr3 : ∀ (j : Nat) (o : AObj), j < T → j ≠ 1 → H2[j]? = some o → H3[j]? = some o := fun j o h1 h2 e => c4 j o e h2 (fun f => by have := d1 j f; omega) (fun f => by have := d2 j f; omega)
  have tv : ∀ j, qv3 = some j → T ≤ j := fun j f => by
   rcases c5 with q | ⟨i, q, q2⟩
   ·exact d1 j (q ▸ f)
   ·rw [q] at f; cases f; omega
  have tk : ∀ j, qk3 = some j → T ≤ j := fun j f => by
   rcases c6 with q | ⟨i, q, q2⟩
   ·exact d2 j (q ▸ f)
   ·rw [q] at f; cases f; omega
  obtain ⟨h', vv', kv', qv', qk', e', g1, g2, g3, g4, g5, g6, g7, g8, g9, g10⟩ := ih (i + 1) m (layStep own s ((a : Nat) : Int)) H3 vv3 kv3 qv3 qk3 (by omega) (by omega) c1 (fr3 2 _ (by omega) (by omega) b2) (ho2.frame fun j o f e => fr3 j o (hqo j f).1 (by have := hqo j f; omega) e) (fr3 L _ hL (by omega) bL) (by rw [es]; exact fr3 Lb _ hLb (by omega) bb) (by rw [es, Q6]; exact lb) (by rw [es]; exact c2) (by rw [es]; exact c3) (by rw [es]; exact pl.1) (by rw [es]; exact Nat.le_trans pl.2 (Nat.max_le.2 ⟨by omega, by omega⟩)) tv tk c7 (by omega)
  refine ⟨h', vv', kv', qv', qk', ?_, g1, g2, g3, g4, g5, fun j o t1 t2 t3 eo => g6 j o t1 t2 t3 (fr3 j o t1 t2 (fr2 j o t3 (fr1 j o eo))), g7, g8, g9, by omega⟩
  rw [← e']
  simp only [loop_e,EB_pack_Lay_2,Zaa,Zab,Zac,Zad,Zae,Zaf,Zag,Zaj,Zak,Zan,Zap,Zar,Zat,Zau,Zay,Zba,Zbi,Zbk,Zbm,Zbo,Zbp,Zbq,Zbt,Zby,Zcb,Zcg,Zcv,Zcw,Zcx,Zcy,Zcz,Zda,Zdb,Zdc,Zdd,Q4,Q5,Q0,Q1,Zde,Zdh,Zdx,decide_true,Q2,Q8,Nat.reduceAdd,eq_self,Q2,Q8,h3',x1,x2,sn,bs,lb1,lp1,xb,sb,lo2,lp2,p1,p2,lr,e,hw]
end
end Go.Proofs.Ytkgndbhflehhhaa.Ai
namespace Go.Proofs.Ytkgndbhflehhhaa.Ai
open Go Go.Proofs
open AV renaming junk → J
open List renaming getD_cons_zero → Q0, getD_cons_succ → Q1, length_cons → Q2, replicate → Q3, set_cons_zero → Q4, set_cons_succ → Q5, length_set → Q6, append_nil → Q7, length_nil → Q8
set_option linter.unusedVariables false
set_option linter.unusedSimpArgs false
set_option maxRecDepth 10000
set_option maxHeartbeats 4000000
theorem foldD_len : ∀ (rows : List (List Int)) (s : List (List Int) × List Int), (rows.foldl dStep s).1.length ≤ s.1.length + rows.length ∧ (rows.foldl dStep s).2.length = s.2.length + rows.length := by
 intro rows
 induction rows with
 | nil => intro s; exact ⟨Nat.le_refl _, rfl⟩
 | cons r rows ih =>
  intro s
  obtain ⟨h1, h2⟩ := ih (dStep s r)
  rw [List.foldl_cons]
  have e1 : (dStep s r).2.length = s.2.length + 1 := by simp [dStep]
  have e2 : (dStep s r).1.length ≤ s.1.length + 1 := by
   simp only [dStep]
   split
   ·simp
   ·omega
  rw [Q2]
  omega
theorem foldD_mem : ∀ (rows : List (List Int)) (s : List (List Int) × List Int) (x : List Int), x ∈ (rows.foldl dStep s).1 → x ∈ s.1 ∨ x ∈ rows := by
 intro rows
 induction rows with
 | nil => intro s x h; exact .inl h
 | cons r rows ih =>
  intro s x h
  rw [List.foldl_cons] at h
  rcases ih _ x h with h | h
  ·simp only [dStep] at h
   split at h
   ·rcases List.mem_append.1 h with h | h
    ·exact .inl h
    ·rw [List.mem_singleton] at h; subst h; exact .inr (by simp)
   ·exact .inl h
  ·exact .inr (by simp [h])
theorem st_newF (h : AHeap) (z f : AV) (hf : cellsOf f = [f] ∧ cellOk f = true) : astore (h ++ [.arr 0 1 true [[z]]]) 1 (.ptr h.length 0 0 0) f = some (h ++ [.arr 0 1 true [[f]]]) := by
 simp [astore, putCells, getArr, hf]
theorem mk_I (h : AHeap) (n : Nat) (hn : n ≤ 1000000) : amk h 1 8 [.int .i64 0] (.int .i64 n) (.int .i64 n) = some (.hsl h.length 0 0 n none, h ++ [.arr 0 1 true (eIs (Q3 n 0))]) := by
 simp only [amk]
 rw [if_pos ⟨by omega, by omega, by omega⟩, eIs_zeros]
 have : ((n : Nat) : Int).toNat = n := by omega
 rw [this]
theorem c_st1 {h : AHeap} {a b c d w : AV} (e : h[1]? = some (.arr 0 4 true [[a, b, c, d]])) (hw : cellsOf w = [w] ∧ cellOk w = true) : astore h 1 (.ptr 1 0 0 1) w = some (h.set 1 (.arr 0 4 true [[a, w, c, d]])) := by
 obtain ⟨w1, w2⟩ := hw
 simp [astore, putCells, getArr, e, w1, w2]
def layD (own : List (List Int)) (ord : List Int) : List Int × List Int × List Int := ord.foldl (layStep own) (Q3 own.length 0, [], [])
def OrdOk (own : List (List Int)) (ord : List Int) : Prop := List.Perm ord (iotaI own.length) ∧ SortedK (keyD own) ord
theorem run_Lay {rows : List (List Int)} {v : AV} (hv : LiR rows v) (hn : rows.length ≤ 1000000) (M : Nat) (hM : ∀ r ∈ rows, r.length ≤ M) (hM1 : M ≤ 1000000) (hM2 : rows.length * M + M ≤ 9000000) :
  ∃ (ord : List Int) (h : AHeap) (rv vv kv : AV) (Lb : Nat) (q1 qv qk : Option Nat), OrdOk (distD rows).1 ord ∧ runFn (lim G0.cfg) 9000001 A_pack_Lay [v] [] = some (.agg [rv, .hsl Lb 0 0 (distD rows).1.length none, vv, kv], h) ∧
   OwnG 1 (eIs (distD rows).2) rv h q1 ∧ h[Lb]? = some (.arr 0 1 true (eIs (layD (distD rows).1 ord).1)) ∧ (layD (distD rows).1 ord).1.length = (distD rows).1.length ∧ GrowV (layD (distD rows).1 ord).2.1 vv h qv ∧ GrowV (layD (distD rows).1 ord).2.2 kv h qk := by
 obtain ⟨h0, hh0⟩ : ∃ H : AHeap, H = [.arr 0 4 true [[.nilS, .nilS, .nilS, .nilS]], .arr 0 4 true [[.nilS, .nilS, .nilS, .nilS]], .arr 0 1 true [[.nilS]]] := ⟨_, rfl⟩
 have I0 : Inv1 ([], []) h0 := by
  subst hh0
  exact ⟨rfl, .nilS, .nilS, [], none, none, rfl, OwnG.nil 1 _, rfl, OwnG.nil 1 _, ⟨rfl, fun j hj => (by simp at hj)⟩, fun _ e => (by cases e), fun _ e => (by cases e), fun _ e => (by cases e)⟩
 obtain ⟨h1, r1, I1, hl1⟩ := f_Lay_0 hv hn (fun r hr => Nat.le_trans (hM r hr) hM1) 9000001 rows.length 0 9000001 ([], []) h0 (by omega) (by omega) I0 (by rw [hh0]; simp) (by simp) rfl (by simp)
 rw [List.drop_zero] at I1
 rw [z0] at r1
 have hD : rows.foldl dStep ([], []) = distD rows := rfl
 rw [hD] at I1
 have dl := foldD_len rows ([], [])
 rw [hD] at dl
 have dm : ∀ r ∈ (distD rows).1, r.length ≤ M := fun r hr => by
  rcases foldD_mem rows ([], []) r (by rw [hD]; exact hr) with h | h
  ·simp at h
  ·exact hM r h
 obtain ⟨own, hown⟩ : ∃ o, o = (distD rows).1 := ⟨_, rfl⟩
 obtain ⟨idx, hidx⟩ : ∃ o, o = (distD rows).2 := ⟨_, rfl⟩
 obtain ⟨e0, rv, ov, cs, q1, q2, e1, o1, e2, o2, hc, hq, hq1, hq2⟩ := I1
 rw [← hown] at dl dm hc
 rw [← hidx] at o1 dl
 rw [← hown, ← hidx]
 simp only [Q8,Nat.zero_add] at dl
 have hno : own.length ≤ 1000000 := by omega
 have hmulo : own.length * M ≤ rows.length * M := Nat.mul_le_mul_right M dl.1
 have lc : cs.length = own.length := hc.1
 obtain ⟨L, hL⟩ : ∃ L, L = h1.length := ⟨_, rfl⟩
 -- the order's row
 have mk1 := mk_I h1 own.length hno
 obtain ⟨h2, hh2⟩ : ∃ H, H = h1 ++ [AObj.arr 0 1 true (eIs (Q3 own.length 0))] := ⟨_, rfl⟩
 rw [← hh2, ← hL] at mk1
 have fr2 : ∀ (j : Nat) (o : AObj), h1[j]? = some o → h2[j]? = some o := fun j o e => by rw [hh2]; exact get_app e _
 have eL2 : h2[L]? = some (.arr 0 1 true (eIs (Q3 own.length 0))) := by rw [hh2, hL]; exact get_new _ _
 have lh2 : h2.length = L + 1 := by rw [hh2, hL]; simp
 have fl := f_Lay_fill own.length L hno 9000001 own.length 0 9000001 h2 (by omega) (by omega) (by rw [eL2]; rfl)
 rw [z0] at fl
 obtain ⟨h3, hh3⟩ : ∃ H, H = h2.set L (.arr 0 1 true (eIs (iotaI own.length))) := ⟨_, rfl⟩
 rw [← hh3] at fl
 have lh3 : h3.length = L + 1 := by rw [hh3, Q6]; exact lh2
 have fr3 : ∀ (j : Nat) (o : AObj), j ≠ L → h2[j]? = some o → h3[j]? = some o := fun j o n e => by rw [hh3]; exact get_set_ne e n.symm
 have eL3 : h3[L]? = some (.arr 0 1 true (eIs (iotaI own.length))) := by rw [hh3]; exact get_set_eq eL2
 -- the count
 have sf := st_newF h3 .nilF (.fn (.func 33) [] [.ptr 2 0 0 0]) ⟨rfl, rfl⟩
 obtain ⟨h4, hh4⟩ : ∃ H, H = h3 ++ [AObj.arr 0 1 true [[.fn (.func 33) [] [.ptr 2 0 0 0]]]] := ⟨_, rfl⟩
 rw [← hh4, lh3] at sf
 have fr4 : ∀ (j : Nat) (o : AObj), h3[j]? = some o → h4[j]? = some o := fun j o e => by rw [hh4]; exact get_app e _
 have ec4 : h4[L + 1]? = some (.arr 0 1 true [[.fn (.func 33) [] [.ptr 2 0 0 0]]]) := by rw [hh4, ← lh3]; exact get_new _ _
 have lh4 : h4.length = L + 2 := by rw [hh4]; simp [lh3]
 have L3 : 3 ≤ L := by omega
 have q1l : ∀ i, q1 = some i → i < L := fun i e => by rw [e] at o1; rw [hL]; exact o1.lt
 have q2l : ∀ i, q2 = some i → i < L := fun i e => by rw [e] at o2; rw [hL]; exact o2.lt
 have up4 : ∀ (j : Nat) (o : AObj), j < L → h1[j]? = some o → h4[j]? = some o := fun j o n e => fr4 j o (fr3 j o (by omega) (fr2 j o e))
 have o2d : OwnG 1 cs ov h4 q2 := o2.frame fun j o f e => up4 j o (q2l j f) e
 have C := cmp_ok (own := own) (cs := cs) (ov := ov) (q := q2) L L3 q2l hc (fun r hr => Nat.le_trans (dm r hr) hM1)
 obtain ⟨ord, hp, hs, st⟩ := f_SortStable (n := own.length) (ver := 0) (x0 := true) (tl := []) C (by omega) (iotaI own.length) h4 (fun x hx => iotaI_mem.1 hx) (iotaI_lt _) (iotaI_len _) ⟨up4 2 _ (by omega) e2, o2d, ec4⟩ (by rw [Q7]; exact fr4 L _ eL3)
 rw [Q7] at st
 obtain ⟨h5, hh5⟩ : ∃ H, H = h4.set L (.arr 0 1 true (eIs ord)) := ⟨_, rfl⟩
 rw [← hh5] at st
 have fr5 : ∀ (j : Nat) (o : AObj), j ≠ L → h4[j]? = some o → h5[j]? = some o := fun j o n e => by rw [hh5]; exact get_set_ne e n.symm
 have eL5 : h5[L]? = some (.arr 0 1 true (eIs ord)) := by rw [hh5]; exact get_set_eq (fr4 L _ eL3)
 have lh5 : h5.length = L + 2 := by rw [hh5, Q6]; exact lh4
 -- the bases' row
 have mk2 := mk_I h5 own.length hno
 obtain ⟨h6, hh6⟩ : ∃ H, H = h5 ++ [AObj.arr 0 1 true (eIs (Q3 own.length 0))] := ⟨_, rfl⟩
 rw [← hh6, lh5] at mk2
 have fr6 : ∀ (j : Nat) (o : AObj), h5[j]? = some o → h6[j]? = some o := fun j o e => by rw [hh6]; exact get_app e _
 have eb6 : h6[L + 2]? = some (.arr 0 1 true (eIs (Q3 own.length 0))) := by rw [hh6, ← lh5]; exact get_new _ _
 have lh6 : h6.length = L + 3 := by rw [hh6]; simp [lh5]
 have up6 : ∀ (j : Nat) (o : AObj), j < L → h1[j]? = some o → h6[j]? = some o := fun j o n e => fr6 j o (fr5 j o (by omega) (up4 j o n e))
 have e16 := up6 1 _ (by omega) e1
 have sb := c_st1 (w := .hsl (L + 2) 0 0 own.length none) e16 ⟨rfl, rfl⟩
 obtain ⟨h7, hh7⟩ : ∃ H, H = h6.set 1 (.arr 0 4 true [[rv, .hsl (L + 2) 0 0 own.length none, .nilS, .nilS]]) := ⟨_, rfl⟩
 rw [← hh7] at sb
 have fr7 : ∀ (j : Nat) (o : AObj), j ≠ 1 → h6[j]? = some o → h7[j]? = some o := fun j o n e => by rw [hh7]; exact get_set_ne e n.symm
 have e17 : h7[1]? = some (.arr 0 4 true [[rv, .hsl (L + 2) 0 0 own.length none, .nilS, .nilS]]) := by rw [hh7]; exact get_set_eq e16
 have lh7 : h7.length = L + 3 := by rw [hh7, Q6]; exact lh6
 have up7 : ∀ (j : Nat) (o : AObj), j < L → j ≠ 1 → h1[j]? = some o → h7[j]? = some o := fun j o n n1 e => fr7 j o n1 (up6 j o n e)
 have o27 : OwnG 1 cs ov h7 q2 := o2.frame fun j o f e => up7 j o (q2l j f) (by have := hq2 j f; omega) e
 have o17 : OwnG 1 (eIs idx) rv h7 q1 := o1.frame fun j o f e => up7 j o (q1l j f) (by have := hq1 j f; omega) e
 have hol : ord.length = own.length := by rw [hp.length_eq, iotaI_len]
 obtain ⟨h8, vv, kv, qv, qk, r8, g1, g2, g3, g4, g5, g6, g7, g8, g9, g10⟩ := f_Lay_2 (v0 := rv) hc M dm hM1 (by omega) hno hol (fun x hx => iotaI_mem.1 (hp.mem_iff.1 hx)) L (L + 2) (L + 3) 9000001 (by omega) (by omega) (by omega) (by omega) (by omega) L3 (by omega) (fun i e => by have := q2l i e; have := hq2 i e; omega)
  own.length 0 9000001 (Q3 own.length 0, [], []) h7 .nilS .nilS none none (by omega) (by omega) e17 (up7 2 _ (by omega) (by omega) e2) o27 (fr7 L _ (by omega) (fr6 L _ eL5)) (fr7 (L + 2) _ (by omega) eb6) (by simp) (GrowV.nil _) (GrowV.nil _) rfl (by simp) (fun _ e => (by cases e)) (fun _ e => (by cases e)) (fun _ e => (by cases e)) (by omega)
 rw [z0] at r8
 rw [List.drop_zero] at g2 g3 g4 g5
 have hlay : ord.foldl (layStep own) (Q3 own.length 0, [], []) = layD own ord := rfl
 rw [hlay] at g2 g3 g4 g5
 have o18 : OwnG 1 (eIs idx) rv h8 q1 := o17.frame fun j o f e => g6 j o (by have := q1l j f; omega) (by have := hq1 j f; omega) (by have := q1l j f; omega) e
 have e08 := g6 0 _ (by omega) (by omega) (by omega) (up7 0 _ (by omega) (by omega) e0)
 have rc := o18.cell
 have vc := g4.cell
 have kc := g5.cell
 have l9 : aload h8 4 true (.ptr 1 0 0 0) = some (.agg [rv, .hsl (L + 2) 0 0 own.length none, vv, kv]) := by rw [ld_p h8 4 1 0 0 0 true 4 true _ _ g1 rfl]; rfl
 have s9 : astore h8 4 (.ptr 0 0 0 0) (.agg [rv, .hsl (L + 2) 0 0 own.length none, vv, kv]) = some (h8.set 0 (.arr 0 4 true [[rv, .hsl (L + 2) 0 0 own.length none, vv, kv]])) := by
  simp [astore, putCells, getArr, e08, cellsOf, rc.2, vc.2, kc.2, ko_h]
 obtain ⟨h9, hh9⟩ : ∃ H, H = h8.set 0 (.arr 0 4 true [[rv, .hsl (L + 2) 0 0 own.length none, vv, kv]]) := ⟨_, rfl⟩
 rw [← hh9] at s9
 have fr9 : ∀ (j : Nat) (o : AObj), j ≠ 0 → h8[j]? = some o → h9[j]? = some o := fun j o n e => by rw [hh9]; exact get_set_ne e n.symm
 have e09 : h9[0]? = some (.arr 0 4 true [[rv, .hsl (L + 2) 0 0 own.length none, vv, kv]]) := by rw [hh9]; exact get_set_eq e08
 have l0 : aload h9 4 true (.ptr 0 0 0 0) = some (.agg [rv, .hsl (L + 2) 0 0 own.length none, vv, kv]) := by rw [ld_p h9 4 0 0 0 0 true 4 true _ _ e09 rfl]; rfl
 refine ⟨ord, h9, rv, vv, kv, L + 2, q1, qv, qk, ⟨hp, hs⟩, ?_, o18.frame fun j o f e => fr9 j o (by have := hq1 j f; omega) e, fr9 _ _ (by omega) g2, g3, g4.frame fun j o f e => fr9 j o (by have := g7 j f; omega) e, g5.frame fun j o f e => fr9 j o (by have := g8 j f; omega) e⟩
 have lv := hv.len
 have lo1 := o2.len
 rw [lc] at lo1
 have ld1 : aload h1 1 false (.ptr 2 0 0 0) = some ov := by rw [ld_p h1 1 2 0 0 0 false 1 true _ _ e2 rfl]; rfl
 have ld5 : aload h5 1 false (.ptr 2 0 0 0) = some ov := by rw [ld_p h5 1 2 0 0 0 false 1 true _ _ (fr5 2 _ (by omega) (up4 2 _ (by omega) e2)) rfl]; rfl
 have al : ∀ h : AHeap, alen h .slice (.hsl L 0 0 own.length none) = some (.int .i64 own.length) := fun _ => rfl
 rw [R_pack_Lay]
 subst hh0
 simp only [Zab,Zac,Zae,Zaf,Zag,Zai,Zaj,Zak,Zap,Zat,Zay,Zaz,Zba,Zbi,Zbk,Zbm,Zbo,Zbp,Zbt,Zbv,Zby,Zcg,Zcp,Zcq,Zcu,Zcv,Zcw,Zcx,Zcy,Zcz,Zda,Zdb,Zdc,Zdd,Q4,Q5,Q0,Q1,Option.map_some,Zdx,Q2,Q8,Nat.reduceAdd,Nat.reduceSub,eq_self,Q2,Q8,List.replicate_succ,List.replicate_zero,List.cons_append,List.nil_append,Q7,List.nil_append,lv,r1,ld1,ld5,lo1,mk1,al,fl,lh3,sf,st,mk2,sb,r8,l9,s9,l0,resAll,resVals,resVal]
end Go.Proofs.Ytkgndbhflehhhaa.Ai
