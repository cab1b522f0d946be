/- pack.Lay: plain functions, and the small functions that it calls. -/
import Derived.Test.YtkgndbhflehhhaamPk1
import Derived.Test.YtkgndbhflehhhaamPsb
import Derived.Test.YtkgndbhflehhhaamGz
namespace Go.Proofs.Ytkgndbhflehhhaa.Ai
open Go Go.Proofs
open AV renaming junk → J
open List renaming set_cons_zero → Q0, length_cons → Q1, length_nil → Q2, getD_cons_zero → Q3, getD_cons_succ → Q4, set_cons_succ → Q5, replicate → Q6, nil_append → Q7, cons_append → Q8, drop_zero → Q9, replicate_succ → Z0, replicate_zero → Z1, take_succ_cons → Z3, drop_eq_getElem_cons → Z5, take_nil → Z6, drop_eq_nil_iff → Z7, length_replicate → Z9, length_eq_zero_iff → Y0, getElem?_cons_zero → Y1, all_cons → Y2
open Option renaming map_some → Z2, bind_some → Z4
open Option.some renaming injEq → Z8
set_option linter.unusedVariables false
set_option linter.unusedSimpArgs false
set_option maxRecDepth 10000
set_option maxHeartbeats 4000000
def cntD (l : List Int) : Nat := l.countP fun x => decide (x ≠ 0)
theorem cntD_0 (l : List Int) {x : Int} (h : x = 0) : cntD (x :: l) = cntD l := by
 unfold cntD
 rw [List.countP_cons_of_neg]
 simp [h]
theorem cntD_1 (l : List Int) {x : Int} (h : x ≠ 0) : cntD (x :: l) = cntD l + 1 := by
 unfold cntD
 rw [List.countP_cons_of_pos]
 simp [h]
def dStep (s : List (List Int) × List Int) (r : List Int) : List (List Int) × List Int :=
 (if s.1.findIdx (fun x => decide (x = r)) = s.1.length then s.1 ++ [r] else s.1, s.2 ++ [((s.1.findIdx (fun x => decide (x = r)) : Nat) : Int)])
def distD (rows : List (List Int)) : List (List Int) × List Int := rows.foldl dStep ([], [])
def LiR (rows : List (List Int)) (v : AV) : Prop := (rows = [] ∧ v = .nilS) ∨ ∃ e cs, v = .vsl e cs ∧ cs.length = rows.length ∧ ∀ (j : Nat) (hj : j < rows.length), ∃ rv, cs[j]? = some [rv] ∧ Li rows[j] rv
theorem LiR.len {l : List (List Int)} {v : AV} (hl : LiR l v) (h : AHeap) : alen h .slice v = some (.int .i64 l.length) := by
 rcases hl with ⟨rfl, rfl⟩ | ⟨e, cs, rfl, h1, _⟩
 ·rfl
 ·simp [alen, h1]
theorem LiR.ix {l : List (List Int)} {v : AV} (hl : LiR l v) (j : Nat) (hj : j < l.length) : ∃ rv, Li l[j] rv ∧ ∀ (h : AHeap) (k : IntKind), aindexAddr h 1 v (.int k j) = some (.vptr [rv] 0) := by
 rcases hl with ⟨rfl, rfl⟩ | ⟨e, cs, rfl, h1, h2⟩
 ·simp at hj
 ·obtain ⟨rv, h3, h4⟩ := h2 j hj
  exact ⟨rv, h4, fun h k => by simp [aindexAddr, h3]⟩
theorem LiR.fz {l : List (List Int)} {v : AV} (hl : LiR l v) (h : AHeap) (d : Nat) : freeze h (d + 1) v = some (v, true) := by
 rcases hl with ⟨rfl, rfl⟩ | ⟨e, cs, rfl, _⟩ <;> rfl
theorem Li.pure1 {l : List Int} {v : AV} (hl : Li l v) : Ai.pure1 v = true := by
 rcases hl with ⟨rfl, rfl⟩ | ⟨e, rfl⟩ <;> rfl
theorem f_same {a b : List Int} {v w : AV} (ha : Li a v) (hb : Li b w) (hm : a.length ≤ 1000000000) (H : AHeap) : lim G0.cfg (.func 32) [v, w] H = some (.bool (decide (a = b)), H) := by
 refine lim_flat rfl rfl P_pack_same_int (a.length + 1) (fun h => fz_2 (ha.fz h 999) (hb.fz h 999)) ?_ (fun _ => rfl) H
 have la := ha.len
 have lb := hb.len
 have loop : a.length = b.length → ∀ (d i m : Nat), a.length = i + d → d < m → loopN (evalCode (lim G0.cfg) (a.length + 1) B_pack_same_int_0) m ⟨[v, w, J,J,J,J,J,J,J,J,J,J, .int .i64 a.length, .int .i64 i, J,J,J,J,J,J,J,J,J,J,J,J], []⟩ = bif decide (a.drop i = b.drop i) then some (.exit 0, ⟨[J,J,J,J,J,J,J,J,J,J,J,J,J,J,J,J,J,J,J,J,J,J,J,J,J,J], []⟩) else some (.ret, ⟨[J,J,J,J, .bool false, J,J,J,J,J,J,J,J,J,J,J,J,J,J,J,J,J,J,J,J,J], []⟩) := by
  intro hl d
  induction d with
  | zero =>
   intro i m h1 h2
   obtain ⟨m, rfl⟩ : ∃ q, m = q + 1 := ⟨m - 1, by omega⟩
   have h3 : ¬ ((i : Int) < a.length) := by omega
   have q1 : a.drop i = [] := Z7.2 (by omega)
   have q2 : b.drop i = [] := Z7.2 (by omega)
   rw [q1, q2]
   simp only [loop_e,EB_pack_same_int_0,Zab,Zac,Zad,Zag,Zah,Zaj,Zak,Zal,Zas,Zav,Zay,Zbi,Zbq,Zcv,Zcx,Zdc,Zdd,Q0,Q5,Q3,Q4,Zdh,decide_true,decide_false,eq_self,cond_true,h3]
  | succ d ih =>
   intro i m h1 h2
   obtain ⟨m, rfl⟩ : ∃ q, m = q + 1 := ⟨m - 1, by omega⟩
   have h3 : i < a.length := by omega
   have h4 : i < b.length := by omega
   have h3' : (i : Int) < a.length := by omega
   have hw := w64s (n := i) (by omega)
   have q1 : a.drop i = a[i] :: a.drop (i + 1) := Z5 h3
   have q2 : b.drop i = b[i] :: b.drop (i + 1) := Z5 h4
   have xa := fun h => ha.ix h .i64 i h3
   have xb := fun h => hb.ix h .i64 i h4
   rw [q1, q2]
   by_cases e : a[i] = b[i]
   case pos =>
    have e1 : decide (a[i] :: a.drop (i + 1) = b[i] :: b.drop (i + 1)) = decide (a.drop (i + 1) = b.drop (i + 1)) := by rw [decide_eq_decide, e, List.cons.injEq]; simp only [true_and]
    have e2 : decide (a[i] = b[i]) = true := decide_eq_true e
    rw [e1, ← ih (i + 1) m (by omega) (by omega)]
    simp only [loop_e,EB_pack_same_int_0,Zaa,Zab,Zac,Zad,Zae,Zag,Zaj,Zak,Zan,Zar,Zas,Zau,Zay,Zbi,Zbk,Zbo,Zbq,Zcb,Zcv,Zcw,Zcx,Zdb,Zdc,Zdd,Q0,Q5,Q3,Q4,Z4,Zde,Zdh,Zdm,Zdz,decide_true,Bool.not_true,Q1,Q2,if_true,Nat.reduceAdd,Nat.reduceLeDiff,eq_self,aload,acells,part,eI,Q9,Z3,Z6,Q0,h3',xa,xb,e2,hw]
   case neg =>
    have e1 : decide (a[i] :: a.drop (i + 1) = b[i] :: b.drop (i + 1)) = false := decide_eq_false fun h => e (List.cons.inj h).1
    have e2 : decide (a[i] = b[i]) = false := decide_eq_false e
    rw [e1]
    simp only [loop_e,EB_pack_same_int_0,Zaa,Zab,Zac,Zad,Zae,Zag,Zai,Zaj,Zak,Zam,Zao,Zar,Zaw,Zay,Zbi,Zbk,Zbo,Zbq,Zcb,Zcv,Zcw,Zcx,Zdb,Zdc,Zdd,Q0,Q5,Q3,Q4,Z4,Zdh,Zdm,Zdz,decide_true,Bool.not_false,Q1,Q2,if_true,Nat.reduceAdd,Nat.reduceLeDiff,eq_self,cond_false,aload,acells,part,eI,Q9,Z3,Z6,Q0,h3',xa,xb,e2]
 rw [R_pack_same_int]
 by_cases q : (a.length : Int) = b.length
 case neg =>
  have e1 : decide (a = b) = false := decide_eq_false fun h => q (by rw [h])
  have e2 : decide ((a.length : Int) = b.length) = false := decide_eq_false q
  rw [e1]
  simp only [Zab,Zac,Zad,Zai,Zaj,Zak,Zam,Zar,Zay,Zbi,Zbk,Zbq,Zcg,Zcu,Zcv,Zcw,Zcx,Q0,Q5,Q3,Q4,Z2,Zdm,Bool.not_false,Q1,Q2,Nat.reduceAdd,Nat.reduceSub,eq_self,true_and,Q1,Q2,Z0,Z1,Q8,Q7,la,lb,e2,resAll,resVals,resVal,Z8,Prod.mk.injEq,true_and,exists_eq']
 case pos =>
  have e2 : decide ((a.length : Int) = b.length) = true := decide_eq_true q
  have e := loop (by omega) a.length 0 (a.length + 1) (by omega) (by omega)
  rw [Q9, Q9, z0] at e
  by_cases q2 : a = b
  ·rw [decide_eq_true q2, cond_true] at e
   rw [decide_eq_true q2]
   simp only [Zaa,Zab,Zac,Zad,Zae,Zaf,Zag,Zai,Zaj,Zak,Zap,Zas,Zat,Zay,Zbi,Zbk,Zbq,Zcg,Zcu,Zcv,Zcw,Zcx,Zdb,Zdc,Zdd,Q0,Q5,Q3,Q4,Z2,Zdm,Bool.not_true,Q1,Q2,Nat.reduceAdd,Nat.reduceSub,eq_self,true_and,Q1,Q2,Z0,Z1,Q8,Q7,la,lb,e2,e,resAll,resVals,resVal,Z8,Prod.mk.injEq,true_and,exists_eq']
  ·rw [decide_eq_false q2, cond_false] at e
   rw [decide_eq_false q2]
   simp only [Zaa,Zab,Zac,Zad,Zae,Zaf,Zag,Zaj,Zak,Zam,Zao,Zas,Zat,Zay,Zbi,Zbk,Zbq,Zcg,Zcu,Zcv,Zcw,Zcx,Zdb,Zdc,Zdd,Q0,Q5,Q3,Q4,Z2,Zdm,Bool.not_true,Q1,Q2,Nat.reduceAdd,Nat.reduceSub,eq_self,true_and,Q1,Q2,Z0,Z1,Q8,Q7,la,lb,e2,e,resAll,resVals,resVal,Z8,Prod.mk.injEq,true_and,exists_eq']
theorem f_full {a : List Int} {v : AV} (ha : Li a v) (hm : a.length ≤ 1000000000) (H : AHeap) : lim G0.cfg (.func 34) [v] H = some (.int .i64 (cntD a), H) := by
 refine lim_flat rfl rfl P_pack_full (a.length + 1) (fun h => fz_1 (ha.fz h 999)) ?_ (fun _ => rfl) H
 have la := ha.len
 have loop : ∀ (d i m c : Nat), a.length = i + d → d < m → c ≤ i → loopN (evalCode (lim G0.cfg) (a.length + 1) B_pack_full_0) m ⟨[J,J,J, .int .i64 c, J,J, v, .int .i64 a.length, .int .i64 i, J,J,J,J,J,J,J,J,J], []⟩ = some (.exit 0, ⟨[J,J,J, .int .i64 ((c + cntD (a.drop i) : Nat) : Int), J,J,J,J,J,J,J,J,J,J,J,J,J,J], []⟩) := by
  intro d
  induction d with
  | zero =>
   intro i m c h1 h2 h3
   obtain ⟨m, rfl⟩ : ∃ q, m = q + 1 := ⟨m - 1, by omega⟩
   have h4 : ¬ ((i : Int) < a.length) := by omega
   have q1 : a.drop i = [] := Z7.2 (by omega)
   have q2 : c + cntD [] = c := rfl
   rw [q1, q2]
   simp only [loop_e,EB_pack_full_0,Zab,Zac,Zad,Zag,Zah,Zaj,Zak,Zal,Zas,Zav,Zay,Zbi,Zbq,Zcv,Zcx,Zdb,Zdc,Zdd,Q0,Q5,Q3,Q4,Zdh,decide_false,eq_self,h4]
  | succ d ih =>
   intro i m c h1 h2 h3
   obtain ⟨m, rfl⟩ : ∃ q, m = q + 1 := ⟨m - 1, by omega⟩
   have h4 : i < a.length := by omega
   have h4' : (i : Int) < a.length := by omega
   have hw := w64s (n := i) (by omega)
   have hw2 := w64s (n := c) (by omega)
   have q1 : a.drop i = a[i] :: a.drop (i + 1) := Z5 h4
   have xa := fun h => ha.ix h .i64 i h4
   rw [q1]
   by_cases e : a[i] = 0
   case pos =>
    have e1 : cntD (a[i] :: a.drop (i + 1)) = cntD (a.drop (i + 1)) := cntD_0 _ e
    have e2 : decide (a[i] = 0) = true := decide_eq_true e
    rw [e1, ← ih (i + 1) m c (by omega) (by omega) (by omega)]
    simp only [loop_e,EB_pack_full_0,Zaa,Zab,Zac,Zad,Zae,Zag,Zaj,Zak,Zan,Zar,Zas,Zau,Zay,Zbi,Zbk,Zbo,Zbq,Zcb,Zcv,Zcw,Zcx,Zdb,Zdc,Zdd,Q0,Q5,Q3,Q4,Z4,Zde,Zdh,Zdm,Zdz,decide_true,Bool.not_true,Q1,Q2,if_true,Nat.reduceAdd,Nat.reduceLeDiff,eq_self,aload,acells,part,eI,Q9,Z3,Z6,Q0,h4',xa,e2,hw]
   case neg =>
    have e1 : c + cntD (a[i] :: a.drop (i + 1)) = (c + 1) + cntD (a.drop (i + 1)) := by rw [cntD_1 _ e]; omega
    have e2 : decide (a[i] = 0) = false := decide_eq_false e
    rw [e1, ← ih (i + 1) m (c + 1) (by omega) (by omega) (by omega)]
    simp only [loop_e,EB_pack_full_0,Zaa,Zab,Zac,Zad,Zae,Zag,Zaj,Zak,Zan,Zar,Zau,Zay,Zbi,Zbk,Zbo,Zbq,Zcb,Zcv,Zcw,Zcx,Zdb,Zdc,Zdd,Q0,Q5,Q3,Q4,Z4,Zde,Zdh,Zdm,Zdz,decide_true,Bool.not_false,Q1,Q2,if_true,Nat.reduceAdd,Nat.reduceLeDiff,eq_self,aload,acells,part,eI,Q9,Z3,Z6,Q0,h4',xa,e2,hw,hw2]
 have e := loop a.length 0 (a.length + 1) 0 (by omega) (by omega) (by omega)
 rw [Q9, Nat.zero_add, z0] at e
 rw [R_pack_full]
 simp only [Zab,Zac,Zae,Zaf,Zag,Zai,Zaj,Zak,Zap,Zat,Zay,Zbi,Zbk,Zcg,Zcu,Zcv,Zcw,Zcx,Zdb,Zdc,Zdd,Q0,Q5,Q3,Q4,Z2,Q1,Q2,Nat.reduceAdd,Nat.reduceSub,eq_self,true_and,Q1,Q2,Z0,Z1,Q8,Q7,la,e,resAll,resVals,resVal,Z8,Prod.mk.injEq,true_and,exists_eq']
theorem f_Lay_1 {a b : List Int} {v w : AV} (ha : Li a v) (hb : Li b w) (hm : a.length ≤ 1000000000) (H : AHeap) : lim G0.cfg (.func 31) [v, .vptr [w] 0] H = some (.bool (decide (a = b)), H) := by
 have hb' : freeze H 1000 (.vptr [w] 0) = some (.vptr [w] 0, true) := rfl
 refine lim_flat rfl rfl P_pack_Lay_1 1 (fun h => fz_2 (ha.fz h 999) rfl) ?_ (fun _ => rfl) H
 have fs := f_same ha hb hm
 rw [R_pack_Lay_1]
 simp only [Zab,Zac,Zai,Zaj,Zak,Zay,Zaz,Zbi,Zbk,Zbo,Zcp,Zcq,Zcu,Zcv,Zcw,Zcx,Zcz,Zda,Q0,Q5,Q3,Q4,Z4,Z2,Zdz,Q1,Q2,if_true,Nat.reduceAdd,Nat.reduceSub,Nat.reduceLeDiff,eq_self,true_and,Q1,Q2,Z0,Z1,Q8,Q7,aload,acells,part,Q9,Z3,Z6,Q8,Q7,Q0,fs,resAll,resVals,resVal,Z8,Prod.mk.injEq,true_and,exists_eq']
theorem f_IndexRows {rows : List (List Int)} {v : AV} (hr : LiR rows v) {b : List Int} {w : AV} (hb : Li b w) (hn : rows.length ≤ 1000000000) (hm : ∀ r ∈ rows, r.length ≤ 1000000000) (N : Nat) (hN : rows.length < N) :
  runFn (lim G0.cfg) N A_slices_IndexFunc_ssint_sint [v, .fn (.func 31) [] [.vptr [w] 0]] [] = some (.int .i64 (if rows.findIdx (fun x => decide (x = b)) = rows.length then -1 else (rows.findIdx (fun x => decide (x = b)) : Nat)), []) := by
 have lr := hr.len
 have loop : ∀ (d i m : Nat), rows.length = i + d → d < m → loopN (evalCode (lim G0.cfg) N B_slices_IndexFunc_ssint_sint_0) m ⟨[v, .fn (.func 31) [] [.vptr [w] 0], J,J,J,J,J, .int .i64 rows.length, .int .i64 i, J,J,J,J,J,J,J,J,J,J], []⟩ =
   if (rows.drop i).findIdx (fun x => decide (x = b)) = (rows.drop i).length then some (.exit 0, ⟨[J,J,J,J,J,J,J,J,J,J,J,J,J,J,J,J,J,J,J], []⟩) else some (.ret, ⟨[J,J,J,J, .int .i64 ((i + (rows.drop i).findIdx (fun x => decide (x = b)) : Nat) : Int), J,J,J,J,J,J,J,J,J,J,J,J,J,J], []⟩) := by
  intro d
  induction d with
  | zero =>
   intro i m h1 h2
   obtain ⟨m, rfl⟩ : ∃ q, m = q + 1 := ⟨m - 1, by omega⟩
   have h3 : ¬ ((i : Int) < rows.length) := by omega
   have q1 : rows.drop i = [] := Z7.2 (by omega)
   rw [q1, if_pos (by simp)]
   simp only [loop_e,EB_slices_IndexFunc_ssint_sint_0,Zab,Zac,Zad,Zag,Zah,Zaj,Zak,Zal,Zas,Zav,Zay,Zbi,Zbq,Zcv,Zcx,Zdc,Zdd,Q0,Q5,Q3,Q4,Zdh,decide_false,eq_self,h3]
  | succ d ih =>
   intro i m h1 h2
   obtain ⟨m, rfl⟩ : ∃ q, m = q + 1 := ⟨m - 1, by omega⟩
   have h3 : i < rows.length := by omega
   have h3' : (i : Int) < rows.length := by omega
   have hw := w64s (n := i) (by omega)
   have q1 : rows.drop i = rows[i] :: rows.drop (i + 1) := Z5 h3
   obtain ⟨rv, hrv, xr⟩ := hr.ix i h3
   have xr' := fun h => xr h .i64
   have fs := f_Lay_1 hrv hb (hm _ (List.getElem_mem h3))
   rw [q1, List.findIdx_cons]
   by_cases e : rows[i] = b
   case pos =>
    have e2 : decide (rows[i] = b) = true := decide_eq_true e
    rw [e2, cond_true, if_neg (by rw [Q1]; omega)]
    simp only [loop_e,EB_slices_IndexFunc_ssint_sint_0,Zaa,Zab,Zac,Zad,Zae,Zag,Zai,Zaj,Zak,Zam,Zao,Zar,Zaw,Zay,Zaz,Zbi,Zbk,Zbo,Zbq,Zcb,Zcp,Zcq,Zcv,Zcx,Zcz,Zda,Zdb,Zdc,Zdd,Q0,Q5,Q3,Q4,Z4,Zdh,Zdz,decide_true,Q1,Q2,if_true,Nat.reduceAdd,Nat.reduceLeDiff,eq_self,aload,acells,part,Q9,Z3,Z6,Q8,Q7,Q0,h3',xr',fs,e2,Nat.add_zero]
   case neg =>
    have e2 : decide (rows[i] = b) = false := decide_eq_false e
    have e3 := ih (i + 1) m (by omega) (by omega)
    rw [e2, cond_false]
    have e4 : loopN (evalCode (lim G0.cfg) N B_slices_IndexFunc_ssint_sint_0) (m + 1) ⟨[v, .fn (.func 31) [] [.vptr [w] 0], J,J,J,J,J, .int .i64 rows.length, .int .i64 i, J,J,J,J,J,J,J,J,J,J], []⟩ = loopN (evalCode (lim G0.cfg) N B_slices_IndexFunc_ssint_sint_0) m ⟨[v, .fn (.func 31) [] [.vptr [w] 0], J,J,J,J,J, .int .i64 rows.length, .int .i64 ((i + 1 : Nat) : Int), J,J,J,J,J,J,J,J,J,J], []⟩ := by
     simp only [loop_e,EB_slices_IndexFunc_ssint_sint_0,Zaa,Zab,Zac,Zad,Zae,Zag,Zaj,Zak,Zan,Zar,Zas,Zau,Zay,Zaz,Zbi,Zbk,Zbo,Zbq,Zcb,Zcp,Zcq,Zcv,Zcw,Zcx,Zcz,Zda,Zdb,Zdc,Zdd,Q0,Q5,Q3,Q4,Z4,Zde,Zdh,Zdz,decide_true,Q1,Q2,if_true,Nat.reduceAdd,Nat.reduceLeDiff,eq_self,aload,acells,part,Q9,Z3,Z6,Q8,Q7,Q0,h3',xr',fs,e2,hw]
    rw [e4, e3, Q1]
    by_cases e5 : (rows.drop (i + 1)).findIdx (fun x => decide (x = b)) = (rows.drop (i + 1)).length
    ·rw [if_pos e5, if_pos (by omega)]
    ·rw [if_neg e5, if_neg (by omega), show i + 1 + (rows.drop (i + 1)).findIdx (fun x => decide (x = b)) = i + ((rows.drop (i + 1)).findIdx (fun x => decide (x = b)) + 1) by omega]
 have e := loop rows.length 0 N (by omega) hN
 rw [Q9, z0, Nat.zero_add] at e
 rw [R_slices_IndexFunc_ssint_sint]
 by_cases q : rows.findIdx (fun x => decide (x = b)) = rows.length
 ·rw [if_pos q] at e
  rw [if_pos q]
  simp only [Zab,Zac,Zae,Zaf,Zag,Zai,Zaj,Zak,Zap,Zat,Zay,Zbi,Zbk,Zcg,Zcu,Zcv,Zcw,Zcx,Zdb,Zdc,Zdd,Q0,Q5,Q3,Q4,Z2,Q1,Q2,Nat.reduceAdd,Nat.reduceSub,Int.reduceNeg,eq_self,Q1,Q2,Z0,Z1,Q8,Q7,lr,e,resAll,resVals,resVal]
 ·rw [if_neg q] at e
  rw [if_neg q]
  simp only [Zab,Zac,Zae,Zaf,Zag,Zaj,Zak,Zam,Zao,Zat,Zay,Zbi,Zbk,Zcg,Zcu,Zcv,Zcw,Zcx,Zdb,Zdc,Zdd,Q0,Q5,Q3,Q4,Z2,Q1,Q2,Nat.reduceAdd,Nat.reduceSub,Int.reduceNeg,eq_self,Q1,Q2,Z0,Z1,Q8,Q7,lr,e,resAll,resVals,resVal]
end Go.Proofs.Ytkgndbhflehhhaa.Ai
namespace Go.Proofs.Ytkgndbhflehhhaa.Ai
open Go
open AV renaming junk → J
open List renaming set_cons_zero → Q0, length_cons → Q1, length_nil → Q2, getD_cons_zero → Q3, getD_cons_succ → Q4, set_cons_succ → Q5, replicate → Q6, nil_append → Q7, cons_append → Q8, drop_zero → Q9, replicate_succ → Z0, replicate_zero → Z1, take_succ_cons → Z3, drop_eq_getElem_cons → Z5, take_nil → Z6, drop_eq_nil_iff → Z7, length_replicate → Z9, length_eq_zero_iff → Y0, getElem?_cons_zero → Y1, all_cons → Y2
open Option renaming map_some → Z2, bind_some → Z4
open Option.some renaming injEq → Z8
set_option linter.unusedVariables false
set_option linter.unusedSimpArgs false
def OwnG (sz : Nat) (rows : List (List AV)) (v : AV) (h : AHeap) (q : Option Nat) : Prop :=
 (rows = [] ∧ v = .nilS ∧ q = none) ∨ (rows ≠ [] ∧ ∃ i ver, q = some i ∧ v = .hsl i ver 0 rows.length none ∧ h[i]? = some (.arr ver sz false rows))
theorem OwnG.nil (sz : Nat) (h : AHeap) : OwnG sz [] .nilS h none := .inl ⟨rfl, rfl, rfl⟩
theorem OwnG.frame {sz : Nat} {rows : List (List AV)} {v : AV} {h h' : AHeap} {q : Option Nat} (ho : OwnG sz rows v h q) (hf : ∀ i o, q = some i → h[i]? = some o → h'[i]? = some o) : OwnG sz rows v h' q := by
 rcases ho with ho | ⟨h1, i, ver, h2, h3, h4⟩
 ·exact .inl ho
 ·exact .inr ⟨h1, i, ver, h2, h3, hf i _ h2 h4⟩
theorem OwnG.len {sz : Nat} {rows : List (List AV)} {v : AV} {h : AHeap} {q : Option Nat} (ho : OwnG sz rows v h q) (h' : AHeap) : alen h' .slice v = some (.int .i64 rows.length) := by
 rcases ho with ⟨h1, h2, _⟩ | ⟨h1, i, ver, h2, h3, h4⟩
 ·subst h1 h2; rfl
 ·subst h3; rfl
theorem OwnG.cell {sz : Nat} {rows : List (List AV)} {v : AV} {h : AHeap} {q : Option Nat} (ho : OwnG sz rows v h q) : cellsOf v = [v] ∧ cellOk v = true := by
 rcases ho with ⟨_, h2, _⟩ | ⟨_, i, ver, _, h3, _⟩
 ·subst h2; exact ⟨rfl, rfl⟩
 ·subst h3; exact ⟨rfl, rfl⟩
theorem OwnG.lt {sz : Nat} {rows : List (List AV)} {v : AV} {h : AHeap} {i : Nat} (ho : OwnG sz rows v h (some i)) : i < h.length := by
 rcases ho with ⟨_, _, h⟩ | ⟨_, j, ver, h2, _, h4⟩
 ·cases h
 ·cases h2; exact get_len h4
theorem OwnG.push {sz : Nat} {rows : List (List AV)} {c : List AV} {v : AV} {h : AHeap} {q : Option Nat} (e : Bool) (ho : OwnG sz rows v h q) (hsz : c.length = sz) (hc : c.all cellOk = true) (hall : rows.all (fun c => c.length == sz && c.all cellOk) = true) (bytes : Nat) (hb : bytes ≤ 1000) (hl : rows.length ≤ 1000000) :
  ∃ i ver h', aapp h sz bytes v (.vsl e [c]) = some (.hsl i ver 0 (rows.length + 1) none, h') ∧ OwnG sz (rows ++ [c]) (.hsl i ver 0 (rows.length + 1) none) h' (some i) ∧ (∀ j o, h[j]? = some o → q ≠ some j → h'[j]? = some o) ∧ (q = some i ∨ (q = none ∧ i = h.length)) ∧ h.length ≤ h'.length := by
 have hel : elemsOf h sz (.vsl e [c]) = some [c] := by simp [elemsOf, hsz]
 have hc1 : (c.length == sz && c.all cellOk) = true := by rw [hc, hsz]; simp
 unfold aapp
 rw [hel]
 simp only [Option.elim_some,aappend,Q1,Q2]
 rcases ho with ⟨rfl, rfl, rfl⟩ | ⟨h1, i, ver, rfl, rfl, h3⟩
 ·have hcd : [c].length * (bytes + 1) ≤ 68719476736 ∧ [c].all (fun c => c.length == sz && c.all cellOk) = true := ⟨by simp; omega, by simp only [Y2,List.all_nil,hc1]; rfl⟩
  refine ⟨h.length, 0, h ++ [.arr 0 sz false [c]], by simp only [aappendN,freshArr]; rw [if_pos hcd]; rfl, .inr ⟨by simp, h.length, 0, rfl, by simp, by simp⟩, fun j o e _ => get_app e _, .inr ⟨rfl, rfl⟩, by simp⟩
 ·have hne : ¬ (0 + rows.length + [c].length ≤ rows.length ∧ inRoom (rows.length + [c].length) none = true) := by
   simp only [Q1,Q2]; omega
  have hc2 : True ∧ 0 + rows.length ≤ rows.length := ⟨trivial, by omega⟩
  have htk : (List.drop 0 rows).take rows.length = rows := by rw [Q9]; exact List.take_of_length_le (Nat.le_refl _)
  have hall2 : (rows ++ [c]).all (fun c => c.length == sz && c.all cellOk) = true := by rw [List.all_append, hall]; simp only [Y2,List.all_nil,hc1]; rfl
  have hlen : (rows ++ [c]).length = rows.length + 1 := by simp
  have hcd : (rows ++ [c]).length * (bytes + 1) ≤ 68719476736 ∧ (rows ++ [c]).all (fun c => c.length == sz && c.all cellOk) = true := by
   refine ⟨?_, hall2⟩
   rw [hlen]
   have : (rows.length + 1) * (bytes + 1) ≤ 1000001 * 1001 := Nat.mul_le_mul (by omega) (by omega)
   omega
  refine ⟨i, ver + 1, h.set i (.arr (ver + 1) sz false (rows ++ [c])), ?_, .inr ⟨by simp, i, ver + 1, rfl, by simp, get_set_eq h3⟩, fun j o e hn => get_set_ne e (fun he => hn (by rw [he])), .inl rfl, by simp⟩
  simp only [aappendN,getArr,h3,if_true]
  rw [if_pos hc2, if_neg hne]
  simp only [htk]
  rw [if_pos hcd, hlen]
  rfl
def GrowV (l : List Int) (v : AV) (h : AHeap) (q : Option Nat) : Prop :=
 (l = [] ∧ v = .nilS ∧ q = none) ∨ ∃ i c, q = some i ∧ v = .hsl i 0 0 l.length (some c) ∧ l.length ≤ c ∧ h[i]? = some (.arr 0 1 true (eIs l ++ Q6 (c - l.length) [.int .i64 0]))
theorem GrowV.nil (h : AHeap) : GrowV [] .nilS h none := .inl ⟨rfl, rfl, rfl⟩
theorem GrowV.frame {l : List Int} {v : AV} {h h' : AHeap} {q : Option Nat} (ho : GrowV l v h q) (hf : ∀ i o, q = some i → h[i]? = some o → h'[i]? = some o) : GrowV l v h' q := by
 rcases ho with ho | ⟨i, c, h1, h2, h3, h4⟩
 ·exact .inl ho
 ·exact .inr ⟨i, c, h1, h2, h3, hf i _ h1 h4⟩
theorem GrowV.len {l : List Int} {v : AV} {h : AHeap} {q : Option Nat} (ho : GrowV l v h q) (h' : AHeap) : alen h' .slice v = some (.int .i64 l.length) := by
 rcases ho with ⟨h1, h2, _⟩ | ⟨i, c, _, h2, _, _⟩
 ·subst h1 h2; rfl
 ·subst h2; rfl
theorem GrowV.cell {l : List Int} {v : AV} {h : AHeap} {q : Option Nat} (ho : GrowV l v h q) : cellsOf v = [v] ∧ cellOk v = true := by
 rcases ho with ⟨_, h2, _⟩ | ⟨i, c, _, h2, _, _⟩ <;> subst h2 <;> exact ⟨rfl, rfl⟩
theorem GrowV.lt {l : List Int} {v : AV} {h : AHeap} {i : Nat} (ho : GrowV l v h (some i)) : i < h.length := by
 rcases ho with ⟨_, _, h⟩ | ⟨j, c, h1, _, _, h4⟩
 ·cases h
 ·cases h1; exact get_len h4
theorem GrowV.ix {l : List Int} {v : AV} {h : AHeap} {q : Option Nat} (ho : GrowV l v h q) {j : Nat} (hj : j < l.length) : ∃ i, q = some i ∧ (∀ k : IntKind, aindexAddr h 1 v (.int k j) = some (.ptr i 0 j 0)) ∧ aload h 1 false (.ptr i 0 j 0) = some (.int .i64 l[j]) := by
 rcases ho with ⟨h1, _⟩ | ⟨i, c, h1, h2, h3, h4⟩
 ·subst h1; simp at hj
 ·subst h2
  exact ⟨i, h1, fun k => ix_hv h4 hj, ldI h4 hj⟩
theorem GrowV.put {l : List Int} {v : AV} {h : AHeap} {i : Nat} (ho : GrowV l v h (some i)) {j : Nat} (hj : j < l.length) (n : Int) : ∃ h', astore h 1 (.ptr i 0 j 0) (.int .i64 n) = some h' ∧ GrowV (l.set j n) v h' (some i) ∧ (∀ p o, h[p]? = some o → p ≠ i → h'[p]? = some o) ∧ h'.length = h.length := by
 rcases ho with ⟨h1, _⟩ | ⟨i', c, h1, h2, h3, h4⟩
 ·subst h1; simp at hj
 ·cases h1
  subst h2
  refine ⟨_, stI h4 hj n, .inr ⟨i, c, rfl, by rw [List.length_set], by rw [List.length_set]; exact h3, by rw [List.length_set]; exact get_set_eq h4⟩, fun p o e hne => get_set_ne e (Ne.symm hne), by simp⟩
def extL (l : List Int) (n : Nat) : List Int := l ++ Q6 (n - l.length) 0
theorem extL_len (l : List Int) (n : Nat) : (extL l n).length = max l.length n := by simp [extL]; omega
theorem extL_same {l : List Int} {n : Nat} (h : n ≤ l.length) : extL l n = l := by
 have : n - l.length = 0 := by omega
 simp [extL, this]
theorem eIs_zeros (k : Nat) : eIs (Q6 k 0) = Q6 k [AV.int .i64 0] := by simp [eIs, eI]
theorem extL_rows {l : List Int} {n c : Nat} (h1 : l.length ≤ n) (h2 : n ≤ c) : eIs l ++ Q6 (c - l.length) [AV.int .i64 0] = eIs (extL l n) ++ Q6 (c - (extL l n).length) [AV.int .i64 0] := by
 rw [extL_len, Nat.max_eq_right h1, extL, eIs_append, eIs_zeros, List.append_assoc, List.replicate_append_replicate]
 congr 2; omega
theorem lit1' (h : AHeap) (z a : AV) (ha : pure1 a = true) (ca : cellsOf a = [a]) : abs0 h false 1 1 [z] [(0, a)] = some (.vsl true [[a]], h) := by
 simp [abs0, fillCells, flatParts, putCells, ca, chop, ha]
theorem ko_i (k : IntKind) (n : Int) : cellOk (.int k n) = true := rfl
theorem ko_h (i v o n : Nat) (c : Option Nat) : cellOk (.hsl i v o n c) = true := rfl
theorem ko_n : cellOk .nilS = true := rfl
end Go.Proofs.Ytkgndbhflehhhaa.Ai
namespace Go.Proofs.Ytkgndbhflehhhaa.Ai
open Go Go.Proofs
open AV renaming junk → J
open List renaming set_cons_zero → Q0, length_cons → Q1, length_nil → Q2, getD_cons_zero → Q3, getD_cons_succ → Q4, set_cons_succ → Q5, replicate → Q6, nil_append → Q7, cons_append → Q8, drop_zero → Q9, replicate_succ → Z0, replicate_zero → Z1, take_succ_cons → Z3, drop_eq_getElem_cons → Z5, take_nil → Z6, drop_eq_nil_iff → Z7, length_replicate → Z9, length_eq_zero_iff → Y0, getElem?_cons_zero → Y1, all_cons → Y2
open Option renaming map_some → Z2, bind_some → Z4
open Option.some renaming injEq → Z8
set_option linter.unusedVariables false
set_option linter.unusedSimpArgs false
set_option maxRecDepth 10000
set_option maxHeartbeats 4000000
theorem sl_cap {h : AHeap} {i n m c len : Nat} {cc : Option Nat} {rows : List (List AV)} (hi : h[i]? = some (.arr 0 1 true rows)) (h1 : len ≤ rows.length) (h2 : n ≤ m) (h3 : m ≤ limOf rows.length cc) (h4 : limOf rows.length cc ≤ rows.length) : aslice h 1 (.hsl i 0 0 len cc) none (some (.int .i64 n)) (some (.int .i64 m)) = some (.hsl i 0 0 n (some m)) := by
 have hb : abounds len (limOf (rows.length - 0) cc) none (some (.int .i64 n)) (some (.int .i64 m)) = some (0, n, some m) := by
  rw [Nat.sub_zero]
  simp only [abounds,optInt,Option.getD_none,Option.getD_some,Option.isSome_some]
  rw [if_pos ⟨by omega, by omega, by omega⟩, if_pos ⟨by omega, by omega, trivial⟩]
  simp
 have hc : True ∧ 0 + len ≤ rows.length := ⟨trivial, by omega⟩
 simp only [aslice,getArr,hi,if_true]
 rw [if_pos hc, hb]
 simp
theorem zeros_all (k : Nat) : (Q6 k [AV.int .i64 0]).all (fun c => c.length == 1 && c.all cellOk) = true := by
 induction k with
 | zero => rfl
 | succ k ih => rw [Z0, Y2, ih]; rfl
theorem f_grown {l : List Int} {v : AV} {h : AHeap} {q : Option Nat} (hg : GrowV l v h q) (n : Nat) (hn : n ≤ 10000000) (hl : l.length ≤ 10000000) :
  ∃ (v' : AV) (h' : AHeap) (q' : Option Nat), lim G0.cfg (.func 39) [v, .int .i64 n] h = some (v', h') ∧ GrowV (extL l n) v' h' q' ∧ (∀ (j : Nat) (o : AObj), h[j]? = some o → h'[j]? = some o) ∧ (q' = q ∨ q' = some h.length) ∧ h.length ≤ h'.length := by
 have ll := hg.len
 by_cases p1 : (n : Int) ≤ l.length
 case pos =>
  refine ⟨v, h, q, lim_func rfl P_pack_grown 1 ?_, by rw [extL_same (by omega)]; exact hg, fun _ _ e => e, .inl rfl, Nat.le_refl _⟩
  rw [R_pack_grown]
  simp only [Zab,Zac,Zad,Zae,Zai,Zaj,Zak,Zam,Zao,Zar,Zay,Zbi,Zbk,Zbq,Zcg,Zcu,Zcv,Zcw,Zcx,Q0,Q5,Q3,Q4,Z2,Zdi,decide_true,Q1,Q2,Nat.reduceAdd,Nat.reduceSub,eq_self,Q1,Q2,Z0,Z1,Q8,Q7,ll,p1,resAll,resVals,resVal]
 case neg =>
 -- a new row
 have fresh : (∃ c : Nat, (∀ h' : AHeap, (∀ (j : Nat) (o : AObj), h[j]? = some o → h'[j]? = some o) → acap h' v = some (.int .i64 c)) ∧ c < n) → (∀ h' : AHeap, (∀ (j : Nat) (o : AObj), h[j]? = some o → h'[j]? = some o) → elemsOf h' 1 v = some (eIs l)) →
   ∃ (v' : AV) (h' : AHeap) (q' : Option Nat), lim G0.cfg (.func 39) [v, .int .i64 n] h = some (v', h') ∧ GrowV (extL l n) v' h' q' ∧ (∀ (j : Nat) (o : AObj), h[j]? = some o → h'[j]? = some o) ∧ (q' = q ∨ q' = some h.length) ∧ h.length ≤ h'.length := by
  intro hc he
  obtain ⟨c, hc1, hc2⟩ := hc
  have c1 := hc1 h (fun _ _ e => e)
  have hcn : (c : Int) < n := by omega
  have w1 : IntKind.i64.wrap (2 * (n : Int)) = ((2 * n : Nat) : Int) := by rw [w64 (by omega) (by omega)]; omega
  have mk : amk h 1 8 [.int .i64 0] (.int .i64 0) (.int .i64 ((2 * n : Nat) : Int)) = some (.hsl h.length 0 0 0 none, h ++ [.arr 0 1 true (Q6 (2 * n) [.int .i64 0])]) := by
   simp only [amk]
   rw [if_pos ⟨by omega, by omega, by omega⟩]
   have : ((2 * n : Nat) : Int).toNat = 2 * n := by omega
   rw [this]
   rfl
  have hpre : ∀ (j : Nat) (o : AObj), h[j]? = some o → (h ++ [AObj.arr 0 1 true (Q6 (2 * n) [.int .i64 0])])[j]? = some o := fun j o e => get_app e _
  have e1 := he _ hpre
  have hnew : (h ++ [AObj.arr 0 1 true (Q6 (2 * n) [.int .i64 0])])[h.length]? = some (.arr 0 1 true (Q6 (2 * n) [.int .i64 0])) := get_new _ _
  have app : aapp (h ++ [.arr 0 1 true (Q6 (2 * n) [.int .i64 0])]) 1 8 (.hsl h.length 0 0 0 none) v = some (.hsl h.length 0 0 l.length none, h ++ [.arr 0 1 true (eIs l ++ Q6 (2 * n - l.length) [.int .i64 0])]) := by
   unfold aapp
   rw [e1]
   simp only [Option.elim_some,aappend,Zep]
   by_cases l0 : l.length = 0
   ·have : l = [] := Y0.1 l0
    subst this
    rw [if_pos l0]
    simp only [aappend0,getArr,hnew,if_true,Z2]
    simp [eIs]
   ·rw [if_neg l0]
    simp only [aappendN,getArr,hnew,if_true]
    rw [if_pos ⟨trivial, by simp⟩, if_pos ⟨by rw [Zep, Z9]; omega, rfl⟩, if_pos (eIs_all l)]
    simp only [Nat.zero_add,List.take_zero,Q7,Zep,List.drop_replicate,set_new]
  have hnew2 : (h ++ [AObj.arr 0 1 true (eIs l ++ Q6 (2 * n - l.length) [.int .i64 0])])[h.length]? = some (.arr 0 1 true (eIs l ++ Q6 (2 * n - l.length) [.int .i64 0])) := get_new _ _
  have hrl : (eIs l ++ Q6 (2 * n - l.length) [AV.int .i64 0]).length = 2 * n := by rw [List.length_append, Zep, Z9]; omega
  have cap2 : acap (h ++ [.arr 0 1 true (eIs l ++ Q6 (2 * n - l.length) [.int .i64 0])]) (.hsl h.length 0 0 l.length none) = some (.int .i64 ((2 * n : Nat) : Int)) := by
   simp only [acap,getArr,hnew2,if_true,hrl,Nat.sub_zero]
  have sl := sl_cap (n := n) (m := 2 * n) (len := l.length) (cc := none) (c := 0) hnew2 (by rw [hrl]; omega) (by omega) (by simp only [limOf]; rw [hrl]; omega) (by simp only [limOf]; omega)
  refine ⟨.hsl h.length 0 0 n (some (2 * n)), _, some h.length, lim_func rfl P_pack_grown 1 ?_, .inr ⟨h.length, 2 * n, rfl, by rw [extL_len, Nat.max_eq_right (by omega)], by rw [extL_len]; omega, by rw [← extL_rows (n := n) (by omega) (by omega)]; exact hnew2⟩, fun j o e => get_app e _, .inr rfl, by simp⟩
  rw [R_pack_grown]
  simp only [Zab,Zac,Zad,Zae,Zai,Zaj,Zak,Zan,Zar,Zas,Zay,Zaz,Zbi,Zbk,Zbq,Zbv,Zbw,Zcg,Zch,Zci,Zcu,Zcv,Zcw,Zcx,Q0,Q5,Q3,Q4,Z2,Zdg,Zdi,Zdj,decide_true,decide_false,Q1,Q2,Nat.reduceAdd,Nat.reduceSub,eq_self,Q1,Q2,Z0,Z1,Q8,Q7,ll,p1,c1,hcn,w1,mk,app,cap2,Option.map_none,sl,resAll,resVals,resVal]
 rcases hg with ⟨h1, h2, h3⟩ | ⟨i, c, h1, h2, h3, h4⟩
 ·subst h1 h2
  exact fresh ⟨0, fun _ _ => rfl, by simp at p1; omega⟩ (fun _ _ => rfl)
 ·subst h2
  have ca : ∀ h' : AHeap, (∀ (j : Nat) (o : AObj), h[j]? = some o → h'[j]? = some o) → acap h' (.hsl i 0 0 l.length (some c)) = some (.int .i64 c) := fun h' hp => by
   have e4 := hp i _ h4
   simp only [acap,getArr,e4,if_true]
  by_cases p2 : (c : Int) < n
  ·refine fresh ⟨c, ca, by omega⟩ (fun h' hp => ?_)
   ·have hrl : (eIs l ++ Q6 (c - l.length) [AV.int .i64 0]).length = c := by rw [List.length_append, Zep, Z9]; omega
    have e4 := hp i _ h4
    simp only [elemsOf,getArr,e4,if_true]
    rw [if_pos ⟨trivial, by rw [hrl]; omega⟩, Q9]
    congr 1
    have := List.take_left' (l₁ := eIs l) (l₂ := Q6 (c - l.length) [AV.int .i64 0]) (i := l.length) (Zep l)
    exact this
  ·have hrl : (eIs l ++ Q6 (c - l.length) [AV.int .i64 0]).length = c := by rw [List.length_append, Zep, Z9]; omega
   have c1 := ca h (fun _ _ e => e)
   have sl := sl_cap (n := n) (m := c) (len := l.length) (cc := some c) (c := 0) h4 (by rw [hrl]; omega) (by omega) (by simp only [limOf]; omega) (by simp only [limOf]; rw [hrl]; omega)
   refine ⟨.hsl i 0 0 n (some c), h, q, lim_func rfl P_pack_grown 1 ?_, .inr ⟨i, c, h1, by rw [extL_len, Nat.max_eq_right (by omega)], by rw [extL_len]; omega, by rw [← extL_rows (n := n) (by omega) (by omega)]; exact h4⟩, fun _ _ e => e, .inl rfl, Nat.le_refl _⟩
   rw [R_pack_grown]
   simp only [Zaa,Zab,Zac,Zad,Zae,Zai,Zaj,Zak,Zan,Zas,Zay,Zbi,Zbk,Zbq,Zbw,Zcg,Zch,Zcu,Zcv,Zcw,Zcx,Q0,Q5,Q3,Q4,Z2,Zdi,Zdj,decide_false,Q1,Q2,Nat.reduceAdd,Nat.reduceSub,eq_self,Q1,Q2,Z0,Z1,Q8,Q7,ll,p1,c1,p2,Option.map_none,sl,resAll,resVals,resVal]
end Go.Proofs.Ytkgndbhflehhhaa.Ai
namespace Go.Proofs.Ytkgndbhflehhhaa.Ai
open Go Go.Proofs
open AV renaming junk → J
open List renaming set_cons_zero → Q0, length_cons → Q1, length_nil → Q2, getD_cons_zero → Q3, getD_cons_succ → Q4, set_cons_succ → Q5, replicate → Q6, nil_append → Q7, cons_append → Q8, drop_zero → Q9, replicate_succ → Z0, replicate_zero → Z1, take_succ_cons → Z3, drop_eq_getElem_cons → Z5, take_nil → Z6, drop_eq_nil_iff → Z7, length_replicate → Z9, length_eq_zero_iff → Y0, getElem?_cons_zero → Y1, all_cons → Y2
open Option renaming map_some → Z2, bind_some → Z4
open Option.some renaming injEq → Z8
set_option linter.unusedVariables false
set_option linter.unusedSimpArgs false
set_option maxRecDepth 10000
set_option maxHeartbeats 4000000
def RowsC (rows : List (List Int)) (cs : List (List AV)) : Prop := cs.length = rows.length ∧ ∀ (j : Nat) (hj : j < rows.length), ∃ rv, cs[j]? = some [rv] ∧ Li rows[j] rv
theorem RowsC.all {rows : List (List Int)} {cs : List (List AV)} (h : RowsC rows cs) : cs.all (fun c => c.length == 1 && c.all cellOk) = true := by
 rw [List.all_eq_true]
 intro c hc
 obtain ⟨j, hj⟩ := List.getElem?_of_mem hc
 have hl := (List.getElem?_eq_some_iff.1 hj).1
 obtain ⟨rv, h1, h2⟩ := h.2 j (by rw [← h.1]; exact hl)
 rw [hj] at h1; cases h1
 simp [h2.cell.2]
theorem RowsC.push {rows : List (List Int)} {cs : List (List AV)} (h : RowsC rows cs) {r : List Int} {rv : AV} (hr : Li r rv) : RowsC (rows ++ [r]) (cs ++ [[rv]]) := by
 refine ⟨by simp [h.1], fun j hj => ?_⟩
 by_cases q : j < rows.length
 ·obtain ⟨x, h1, h2⟩ := h.2 j q
  refine ⟨x, by rw [List.getElem?_append_left (by rw [h.1]; exact q)]; exact h1, ?_⟩
  rw [List.getElem_append_left q]; exact h2
 ·have : j = rows.length := by simp at hj; omega
  subst this
  refine ⟨rv, by rw [← h.1]; simp, ?_⟩
  simpa using hr
theorem mapO_cells {h : AHeap} {d : Nat} : ∀ (rows : List (List Int)) (cs : List (List AV)), RowsC rows cs → ∃ q, mapO (mapO (freeze h (d + 1))) cs = some q ∧ q.map (·.map (·.1)) = cs := by
 intro rows
 induction rows with
 | nil => intro cs hc; have := hc.1; have : cs = [] := Y0.1 (by simpa using this); subst this; exact ⟨[], rfl, rfl⟩
 | cons r rows ih =>
  intro cs hc
  cases cs with
  | nil => have := hc.1; simp at this
  | cons c cs =>
   obtain ⟨rv, h1, h2⟩ := hc.2 0 (by simp)
   simp at h1
   subst h1
   obtain ⟨q, e1, e2⟩ := ih cs ⟨by have := hc.1; simpa using this, fun j hj => by
    obtain ⟨x, k1, k2⟩ := hc.2 (j + 1) (by simpa using hj)
    exact ⟨x, by simpa using k1, by simpa using k2⟩⟩
   have e3 : mapO (freeze h (d + 1)) [rv] = some [(rv, true)] := mapO_1 (Li.fz (l := r) (by simpa using h2) h d)
   exact ⟨[(rv, true)] :: q, by simp only [mapO] at e3 ⊢; simp only [e3,e1], by simp [e2]⟩
theorem freeze_hslG {h : AHeap} {d i ver n sz : Nat} {x : Bool} {cc : Option Nat} {rows : List (List AV)} {q : List (List (AV × Bool))} (hi : h[i]? = some (.arr ver sz x rows)) (hn : n ≤ rows.length) (hm : mapO (mapO (freeze h d)) (rows.take n) = some q) :
  freeze h (d + 1) (.hsl i ver 0 n cc) = some (.vsl false (q.map (·.map (·.1))), false) := by
 have hg : getArr h i ver = some (sz, x, rows) := by simp only [getArr,hi,if_true]
 simp only [freeze,hg]
 rw [if_pos (by omega), Q9, hm]
 rfl
theorem OwnG.fzR {rows : List (List Int)} {cs : List (List AV)} {v : AV} {h : AHeap} {q : Option Nat} (ho : OwnG 1 cs v h q) (hc : RowsC rows cs) : ∃ x c, freeze h 1000 v = some (x, c) ∧ LiR rows x := by
 rcases ho with ⟨h1, h2, _⟩ | ⟨h1, i, ver, _, h3, h4⟩
 ·subst h1 h2
  have : rows = [] := Y0.1 (by have := hc.1; simpa using this.symm)
  exact ⟨.nilS, true, rfl, .inl ⟨this, rfl⟩⟩
 ·subst h3
  obtain ⟨q, e1, e2⟩ := mapO_cells (h := h) (d := 998) rows cs hc
  have := freeze_hslG (d := 999) (n := cs.length) (cc := none) (q := q) h4 (Nat.le_refl _) (by rw [List.take_length]; exact e1)
  refine ⟨_, false, this, .inr ⟨false, cs, by rw [e2], hc⟩⟩
theorem f_IndexOwn {rows : List (List Int)} {cs : List (List AV)} {v : AV} {h : AHeap} {q : Option Nat} (ho : OwnG 1 cs v h q) (hc : RowsC rows cs) {b : List Int} {w : AV} (hb : Li b w) (hn : rows.length ≤ 1000000000) (hm : ∀ r ∈ rows, r.length ≤ 1000000000) {p : Nat} (hp : h[p]? = some (.arr 0 1 true [[w]])) :
  lim G0.cfg (.func 30) [v, .fn (.func 31) [] [.ptr p 0 0 0]] h = some (.int .i64 (if rows.findIdx (fun x => decide (x = b)) = rows.length then -1 else (rows.findIdx (fun x => decide (x = b)) : Nat)), h) := by
 obtain ⟨x, c, e1, e2⟩ := ho.fzR hc
 have hr := f_IndexRows e2 hb hn hm (rows.length + 1) (by omega)
 have fp : freeze h 999 (.ptr p 0 0 0) = some (.vptr [w] 0, false) := by
  have : freeze h 999 (.ptr p 0 0 0) = match getArr h p 0 with
   | some (_, _, l) => match l[0]? with
    | some cells => (mapO (freeze h 998) cells).map fun c => (.vptr (c.map (·.1)) 0, false)
    | none => none
   | none => none := rfl
  rw [this]
  have hg : getArr h p 0 = some (1, true, [[w]]) := by simp only [getArr,hp,if_true]
  simp only [hg,Y1,mapO_1 (hb.fz h 997),Z2,List.map_cons,List.map_nil]
 have ha : mapO (freeze h 1000) [v, .fn (.func 31) [] [.ptr p 0 0 0]] = some [(x, c), (.fn (.func 31) [] [.vptr [w] 0], false)] := mapO_2 e1 (fz_fnc60 (mapO_1 fp))
 exact lim_fz rfl rfl P_slices_IndexFunc_ssint_sint (rows.length + 1) ha hr (rfl : freeze [] 1000 (.int .i64 _) = some (.int .i64 _, true)) (Bool.or_true _)
structure Inv1 (s : List (List Int) × List Int) (h : AHeap) : Prop where
 e0 : h[0]? = some (.arr 0 4 true [[.nilS, .nilS, .nilS, .nilS]])
 ex : ∃ rv ov cs q1 q2, h[1]? = some (.arr 0 4 true [[rv, .nilS, .nilS, .nilS]]) ∧ OwnG 1 (eIs s.2) rv h q1 ∧ h[2]? = some (.arr 0 1 true [[ov]]) ∧ OwnG 1 cs ov h q2 ∧ RowsC s.1 cs ∧ (∀ i, q1 = some i → q2 ≠ some i) ∧ (∀ i, q1 = some i → 3 ≤ i) ∧ (∀ i, q2 = some i → 3 ≤ i)
theorem f_Lay_0 {rows : List (List Int)} {v : AV} (hv : LiR rows v) (hn : rows.length ≤ 1000000) (hm : ∀ r ∈ rows, r.length ≤ 1000000) (N : Nat) : ∀ (d j m : Nat) (s : List (List Int) × List Int) (h : AHeap), rows.length = j + d → d < m → Inv1 s h → 3 ≤ h.length → s.1.length ≤ j → s.2.length = j → (∀ r ∈ s.1, r.length ≤ 1000000) →
  ∃ h', loopN (evalCode (lim G0.cfg) N B_pack_Lay_0) m ⟨(J::J::.ptr 0 0 0 0 :: .ptr 1 0 0 0 :: .ptr 2 0 0 0::J::J::J::J::J::J::J::J::J::J::J::J::v :: .int .i64 rows.length :: .int .i64 j::J::J::J::J::J::J::J::J::J::J::J::J::J::J::J::J::J::J::J::J::J::J::J::J::J::J::J::J::J::J::J::J::J::J::J::J::J::J::J::J::J::J::J::J::J::J::J::J::J::J::J::J::J::J::J::J::J::J::J::J::J::J::J::J::J::J::J::J::J::J::J::J::J::J::J::J::J::J::J::J::J::J::J::J::J::J::J::J::J::J::J::J::J::J::J::J::J::J::J::J::J::J::J::J::J::J::[]), h⟩ = some (.exit 0, ⟨(J::J::.ptr 0 0 0 0 :: .ptr 1 0 0 0 :: .ptr 2 0 0 0::J::J::J::J::J::J::J::J::J::J::J::J::J::J::J::J::J::J::J::J::J::J::J::J::J::J::J::J::J::J::J::J::J::J::J::J::J::J::J::J::J::J::J::J::J::J::J::J::J::J::J::J::J::J::J::J::J::J::J::J::J::J::J::J::J::J::J::J::J::J::J::J::J::J::J::J::J::J::J::J::J::J::J::J::J::J::J::J::J::J::J::J::J::J::J::J::J::J::J::J::J::J::J::J::J::J::J::J::J::J::J::J::J::J::J::J::J::J::J::J::J::[]), h'⟩) ∧ Inv1 ((rows.drop j).foldl dStep s) h' ∧ 3 ≤ h'.length := by
 intro d
 induction d with
 | zero =>
  intro j m s h h1 h2 hI h3 h4 h5 h6
  obtain ⟨m, rfl⟩ : ∃ q, m = q + 1 := ⟨m - 1, by omega⟩
  have h7 : ¬ ((j : Int) < rows.length) := by omega
  have q1 : rows.drop j = [] := Z7.2 (by omega)
  rw [q1]
  refine ⟨h, ?_, hI, h3⟩
  simp only [loop_e,EB_pack_Lay_0,Zab,Zac,Zad,Zag,Zah,Zaj,Zak,Zal,Zas,Zav,Zay,Zbi,Zbq,Zcv,Zcx,Zdb,Zdc,Zdd,Q0,Q5,Q3,Q4,Zdh,decide_false,eq_self,h7]
 | succ d ih =>
  intro j m s h h1 h2 hI h3 h4 h5 h6
  obtain ⟨m, rfl⟩ : ∃ q, m = q + 1 := ⟨m - 1, by omega⟩
  have h7 : j < rows.length := by omega
  have h7' : (j : Int) < rows.length := by omega
  have hw := w64s (n := j) (by omega)
  have q1 : rows.drop j = rows[j] :: rows.drop (j + 1) := Z5 h7
  obtain ⟨w, hw1, xw⟩ := hv.ix j h7
  have xw' := fun h => xw h .i64
  have hrm := hm _ (List.getElem_mem h7)
  obtain ⟨e0, rv, ov, cs, qa, qb, e1, o1, e2, o2, hc, hq, hqa, hqb⟩ := hI
  obtain ⟨wc1, wc2⟩ := hw1.cell
  -- the row's own box
  have pre : ∀ i o, h[i]? = some o → (h ++ [AObj.arr 0 1 true [[w]]])[i]? = some o := fun i o e => get_app e _
  have o1' : OwnG 1 (eIs s.2) rv (h ++ [.arr 0 1 true [[w]]]) qa := o1.frame fun i o _ e => pre i o e
  have o2' : OwnG 1 cs ov (h ++ [.arr 0 1 true [[w]]]) qb := o2.frame fun i o _ e => pre i o e
  have ix := f_IndexOwn o2' hc hw1 (by omega) (fun r hr => by have := h6 r hr; omega) (get_new h (.arr 0 1 true [[w]]))
  have a0 := pre 0 _ e0
  have a1 := pre 1 _ e1
  have a2 := pre 2 _ e2
  have lo := o2'.len
  have lenc : cs.length = s.1.length := hc.1
  rw [lenc] at lo
  rw [q1, List.foldl_cons]
  by_cases q : s.1.findIdx (fun x => decide (x = rows[j])) = s.1.length
  case pos =>
   rw [if_pos q] at ix
   have es : dStep s rows[j] = (s.1 ++ [rows[j]], s.2 ++ [((s.1.length : Nat) : Int)]) := by simp only [dStep]; rw [if_pos q, q]
   obtain ⟨i2, ver2, H2, p1, p2, p3, p4, p5⟩ := o2'.push true (c := [w]) rfl (by simp [wc2]) hc.all 24 (by omega) (by omega)
   rw [lenc] at p1 p2
   have q2n : ∀ k, k < 3 → qb ≠ some k := fun k hk e => by have := hqb k e; omega
   have b0 := p3 0 _ a0 (q2n 0 (by omega))
   have b1 := p3 1 _ a1 (q2n 1 (by omega))
   have b2 := p3 2 _ a2 (q2n 2 (by omega))
   have hi2 : 3 ≤ i2 := by
    rcases p4 with h | ⟨_, h⟩
    ·exact hqb i2 h
    ·rw [h]; simp; omega
   have o1b : OwnG 1 (eIs s.2) rv H2 qa := o1'.frame fun i o e1 e2 => p3 i o e2 (hq i e1)
   have hne : ∀ i, qa = some i → i ≠ i2 := fun i e1 e2 => by
    subst e2
    rcases p4 with h | ⟨_, h⟩
    ·exact hq i e1 h
    ·have := (e1 ▸ o1).lt (i := i)
     rw [h] at this; simp at this; omega
   obtain ⟨ovx, hovx⟩ : ∃ ovx, ovx = AV.hsl i2 ver2 0 (s.1.length + 1) none := ⟨_, rfl⟩
   rw [← hovx] at p1 p2
   have hov : cellsOf ovx = [ovx] ∧ cellOk ovx = true := by rw [hovx]; exact ⟨rfl, rfl⟩
   have c0 := get_set_ne (y := AObj.arr 0 1 true [[ovx]]) b0 (i := 2) (by omega)
   have c1 := get_set_ne (y := AObj.arr 0 1 true [[ovx]]) b1 (i := 2) (by omega)
   have c2 := get_set_eq (y := AObj.arr 0 1 true [[ovx]]) b2
   have o1c : OwnG 1 (eIs s.2) rv (H2.set 2 (.arr 0 1 true [[ovx]])) qa := o1b.frame fun i o e1 e2 => get_set_ne e2 (by have := hqa i e1; omega)
   have p2c : OwnG 1 (cs ++ [[w]]) ovx (H2.set 2 (.arr 0 1 true [[ovx]])) (some i2) := p2.frame fun i o e1 e2 => get_set_ne e2 (by cases e1; omega)
   obtain ⟨i1, ver1, H4, r1, r2, r3, r4, r5⟩ := o1c.push true (c := [.int .i64 ((s.1.length : Nat) : Int)]) rfl rfl (eIs_all _) 8 (by omega) (by rw [Zep]; omega)
   rw [Zep] at r1 r2
   have q1n : ∀ k, k < 3 → qa ≠ some k := fun k hk e => by have := hqa k e; omega
   have d0 := r3 0 _ c0 (q1n 0 (by omega))
   have d1 := r3 1 _ c1 (q1n 1 (by omega))
   have d2 := r3 2 _ c2 (q1n 2 (by omega))
   have hi1 : 3 ≤ i1 := by
    rcases r4 with h | ⟨_, h⟩
    ·exact hqa i1 h
    ·rw [h]; simp; simp at p5; omega
   have hi12 : i1 ≠ i2 := by
    rcases r4 with h | ⟨_, h⟩
    ·exact hne i1 h
    ·have := p2c.lt; rw [h]; omega
   obtain ⟨rvx, hrvx⟩ : ∃ rvx, rvx = AV.hsl i1 ver1 0 (s.2.length + 1) none := ⟨_, rfl⟩
   rw [← hrvx] at r1 r2
   have hrv : cellsOf rvx = [rvx] ∧ cellOk rvx = true := by rw [hrvx]; exact ⟨rfl, rfl⟩
   have p2d : OwnG 1 (cs ++ [[w]]) ovx H4 (some i2) := p2c.frame fun i o e1 e2 => by
    cases e1
    refine r3 i2 o e2 fun e => ?_
    exact (hne i2 e) rfl
   have f0 := get_set_ne (y := AObj.arr 0 4 true [[rvx, .nilS, .nilS, .nilS]]) d0 (i := 1) (by omega)
   have f1 := get_set_eq (y := AObj.arr 0 4 true [[rvx, .nilS, .nilS, .nilS]]) d1
   have f2 := get_set_ne (y := AObj.arr 0 4 true [[rvx, .nilS, .nilS, .nilS]]) d2 (i := 1) (by omega)
   have hI' : Inv1 (dStep s rows[j]) (H4.set 1 (.arr 0 4 true [[rvx, .nilS, .nilS, .nilS]])) := by
    rw [es]
    refine ⟨f0, rvx, ovx, cs ++ [[w]], some i1, some i2, f1, ?_, f2, p2d.frame fun i o e1 e2 => get_set_ne e2 (by cases e1; omega), hc.push hw1, fun i e => by cases e; simpa using hi12.symm, fun i e => by cases e; exact hi1, fun i e => by cases e; exact hi2⟩
    have : eIs (s.2 ++ [((s.1.length : Nat) : Int)]) = eIs s.2 ++ [[.int .i64 ((s.1.length : Nat) : Int)]] := by rw [eIs_append]; rfl
    rw [this]
    exact r2.frame fun i o e1 e2 => get_set_ne e2 (by cases e1; omega)
   obtain ⟨h', e, hI2, hl2⟩ := ih (j + 1) m _ (H4.set 1 (.arr 0 4 true [[rvx, .nilS, .nilS, .nilS]])) (by omega) (by omega) hI' (by simp at p5 r5 ⊢; omega) (by rw [es]; simp; omega) (by rw [es]; simp; omega) (by
    rw [es]; intro r hr
    rcases List.mem_append.1 hr with hr | hr
    ·exact h6 r hr
    ·rw [List.mem_singleton] at hr; subst hr; exact hrm)
   refine ⟨h', ?_, hI2, hl2⟩
   rw [← e]
   have lt1 := fun h : AHeap => lit1' h .nilS w hw1.pure1 wc1
   have lt2 := fun h : AHeap => lit1' h (.int .i64 0) (.int .i64 ((s.1.length : Nat) : Int)) rfl rfl
   simp only [loop_e,EB_pack_Lay_0,Zaa,Zab,Zac,Zad,Zae,Zag,Zaj,Zak,Zan,Zar,Zau,Zay,Zaz,Zba,Zbi,Zbk,Zbm,Zbo,Zbp,Zbq,Zbt,Zby,Zcb,Zcg,Zci,Zcn,Zcp,Zcq,Zcv,Zcw,Zcx,Zcy,Zcz,Zda,Zdb,Zdc,Zdd,Q0,Q5,Q3,Q4,Z4,Zde,Zdh,Zdx,Zdz,decide_true,Y1,Q1,Q2,if_true,Nat.reduceAdd,Nat.reduceLeDiff,Int.reduceNeg,Int.reduceLT,eq_self,and_self,aload,acells,getArr,part,astore,putCells,set_new,Y2,List.all_nil,Bool.and_self,Q9,List.drop_succ_cons,Z3,List.take_zero,Z6,Q8,Q7,Q0,h7',xw',wc1,wc2,a2,hap_get0,List.append_nil,Q7,ix,lo,ev2,lt1,p1,b2,hov,c1,lt2,r1,d1,hrv,hw]
  case neg =>
   rw [if_neg q] at ix
   obtain ⟨k, hk⟩ : ∃ k, k = s.1.findIdx (fun x => decide (x = rows[j])) := ⟨_, rfl⟩
   rw [← hk] at ix q
   have es : dStep s rows[j] = (s.1, s.2 ++ [((k : Nat) : Int)]) := by simp only [dStep, ← hk,if_neg q]
   have hkn : ¬ ((k : Int) < 0) := by omega
   obtain ⟨i1, ver1, H4, r1, r2, r3, r4, r5⟩ := o1'.push true (c := [.int .i64 ((k : Nat) : Int)]) rfl rfl (eIs_all _) 8 (by omega) (by rw [Zep]; omega)
   rw [Zep] at r1 r2
   have q1n : ∀ k, k < 3 → qa ≠ some k := fun k hk e => by have := hqa k e; omega
   have d0 := r3 0 _ a0 (q1n 0 (by omega))
   have d1 := r3 1 _ a1 (q1n 1 (by omega))
   have d2 := r3 2 _ a2 (q1n 2 (by omega))
   have hi1 : 3 ≤ i1 := by
    rcases r4 with h | ⟨_, h⟩
    ·exact hqa i1 h
    ·rw [h]; simp; omega
   obtain ⟨rvx, hrvx⟩ : ∃ rvx, rvx = AV.hsl i1 ver1 0 (s.2.length + 1) none := ⟨_, rfl⟩
   rw [← hrvx] at r1 r2
   have hrv : cellsOf rvx = [rvx] ∧ cellOk rvx = true := by rw [hrvx]; exact ⟨rfl, rfl⟩
   have o2d : OwnG 1 cs ov H4 qb := o2'.frame fun i o e1 e2 => r3 i o e2 fun e => hq i e e1
   have hqn : qb ≠ some i1 := fun e => by
    rcases r4 with h | ⟨_, h⟩
    ·exact hq i1 h e
    ·have := (e ▸ o2').lt (i := i1); rw [h] at this; omega
   have f0 := get_set_ne (y := AObj.arr 0 4 true [[rvx, .nilS, .nilS, .nilS]]) d0 (i := 1) (by omega)
   have f1 := get_set_eq (y := AObj.arr 0 4 true [[rvx, .nilS, .nilS, .nilS]]) d1
   have f2 := get_set_ne (y := AObj.arr 0 4 true [[rvx, .nilS, .nilS, .nilS]]) d2 (i := 1) (by omega)
   have hI' : Inv1 (dStep s rows[j]) (H4.set 1 (.arr 0 4 true [[rvx, .nilS, .nilS, .nilS]])) := by
    rw [es]
    refine ⟨f0, rvx, ov, cs, some i1, qb, f1, ?_, f2, o2d.frame fun i o e1 e2 => get_set_ne e2 (by have := hqb i e1; omega), hc, fun i e => by cases e; exact hqn, fun i e => by cases e; exact hi1, hqb⟩
    have : eIs (s.2 ++ [((k : Nat) : Int)]) = eIs s.2 ++ [[.int .i64 ((k : Nat) : Int)]] := by rw [eIs_append]; rfl
    rw [this]
    exact r2.frame fun i o e1 e2 => get_set_ne e2 (by cases e1; omega)
   obtain ⟨h', e, hI2, hl2⟩ := ih (j + 1) m _ (H4.set 1 (.arr 0 4 true [[rvx, .nilS, .nilS, .nilS]])) (by omega) (by omega) hI' (by simp at r5 ⊢; omega) (by rw [es]; simp; omega) (by rw [es]; simp; omega) (by rw [es]; exact h6)
   refine ⟨h', ?_, hI2, hl2⟩
   rw [← e]
   have lt2 := fun h : AHeap => lit1' h (.int .i64 0) (.int .i64 ((k : Nat) : Int)) rfl rfl
   simp only [loop_e,EB_pack_Lay_0,Zaa,Zab,Zac,Zad,Zae,Zag,Zaj,Zak,Zan,Zar,Zas,Zau,Zay,Zaz,Zba,Zbi,Zbk,Zbm,Zbo,Zbp,Zbq,Zbt,Zby,Zcb,Zci,Zcn,Zcp,Zcq,Zcv,Zcw,Zcx,Zcy,Zcz,Zda,Zdb,Zdc,Zdd,Q0,Q5,Q3,Q4,Z4,Zde,Zdh,Zdx,Zdz,decide_true,decide_false,Y1,Q1,Q2,if_true,Nat.reduceAdd,Nat.reduceLeDiff,eq_self,and_self,aload,acells,getArr,part,astore,putCells,set_new,Y2,List.all_nil,Bool.and_self,Q9,List.drop_succ_cons,Z3,List.take_zero,Z6,Q8,Q7,Q0,h7',xw',wc1,wc2,a1,a2,hap_get0,List.append_nil,Q7,ix,hkn,ev2,lt2,r1,d1,hrv,hw]
end Go.Proofs.Ytkgndbhflehhhaa.Ai
namespace Go.Proofs.Ytkgndbhflehhhaa.Ai
open Go Go.Proofs
open AV renaming junk → J
open List renaming set_cons_zero → Q0, getD_cons_zero → Q1, getD_cons_succ → Q2, set_cons_succ → Q3, length_cons → Q4, length_nil → Q5, cons_append → Q6, nil_append → Q7, replicate_zero → Q8, replicate_succ → Q9, replicate → Z1, append_nil → Z4
open Option renaming map_some → Z0
open Option.some renaming injEq → Z2
open Bool renaming not_true → Z3, not_false → Z5
set_option linter.unusedVariables false
set_option linter.unusedSimpArgs false
set_option maxRecDepth 10000
set_option maxHeartbeats 4000000
def iotaI (n : Nat) : List Int := (List.range n).map fun (k : Nat) => (k : Int)
theorem iotaI_len (n : Nat) : (iotaI n).length = n := by simp [iotaI]
theorem iotaI_succ (n : Nat) : iotaI (n + 1) = iotaI n ++ [(n : Int)] := by simp [iotaI, List.range_succ]
theorem iotaI_lt (n : Nat) : (iotaI n).Pairwise (· < ·) := by
 unfold iotaI
 rw [List.pairwise_map]
 exact List.Pairwise.imp (fun h => by omega) List.pairwise_lt_range
theorem iotaI_mem {n : Nat} {x : Int} : x ∈ iotaI n ↔ 0 ≤ x ∧ x < n := by
 unfold iotaI
 simp only [List.mem_map,List.mem_range]
 constructor
 ·rintro ⟨k, h1, rfl⟩; omega
 ·rintro ⟨h1, h2⟩; exact ⟨x.toNat, by omega, by omega⟩
theorem f_Lay_fill (n L : Nat) (hn : n ≤ 1000000) (N : Nat) : ∀ (d i m : Nat) (h : AHeap), n = i + d → d < m → h[L]? = some (.arr 0 1 true (eIs (iotaI i ++ Z1 d 0))) →
  loopN (evalCode (lim G0.cfg) N B_pack_Lay_1) m ⟨(J::J::.ptr 0 0 0 0 :: .ptr 1 0 0 0 :: .ptr 2 0 0 0::J::J::J::.hsl L 0 0 n none::J::J::J::J::J::J::J::J::J::J::J::J::J::J::J::J::J::J::J::J::J::J::J::J::J::J::J::J::J::J::J::J::J::J::J::J::.int .i64 n :: .int .i64 i::J::J::J::J::J::J::J::J::J::J::J::J::J::J::J::J::J::J::J::J::J::J::J::J::J::J::J::J::J::J::J::J::J::J::J::J::J::J::J::J::J::J::J::J::J::J::J::J::J::J::J::J::J::J::J::J::J::J::J::J::J::J::J::J::J::J::J::J::J::J::J::J::J::J::J::J::J::J::J::[]), h⟩ = some (.exit 2, ⟨(J::J::.ptr 0 0 0 0 :: .ptr 1 0 0 0 :: .ptr 2 0 0 0::J::J::J::.hsl L 0 0 n none::J::J::J::J::J::J::J::J::J::J::J::J::J::J::J::J::J::J::J::J::J::J::J::J::J::J::J::J::J::J::J::J::J::J::J::J::J::J::J::J::J::J::J::J::J::J::J::J::J::J::J::J::J::J::J::J::J::J::J::J::J::J::J::J::J::J::J::J::J::J::J::J::J::J::J::J::J::J::J::J::J::J::J::J::J::J::J::J::J::J::J::J::J::J::J::J::J::J::J::J::J::J::J::J::J::J::J::J::J::J::J::J::J::J::J::J::J::[]), h.set L (.arr 0 1 true (eIs (iotaI n)))⟩) := by
 intro d
 induction d with
 | zero =>
  intro i m h h1 h2 hL
  obtain ⟨m, rfl⟩ : ∃ q, m = q + 1 := ⟨m - 1, by omega⟩
  have h3 : ¬ ((i : Int) < n) := by omega
  have : i = n := by omega
  subst this
  rw [Q8, Z4] at hL
  rw [set_same hL]
  simp only [loop_e,EB_pack_Lay_1,Zab,Zac,Zad,Zag,Zah,Zaj,Zak,Zal,Zas,Zav,Zay,Zbi,Zbq,Zcv,Zcx,Zdb,Zdc,Zdd,Q0,Q3,Q1,Q2,Zdh,decide_false,eq_self,h3]
 | succ d ih =>
  intro i m h h1 h2 hL
  obtain ⟨m, rfl⟩ : ∃ q, m = q + 1 := ⟨m - 1, by omega⟩
  have h3 : (i : Int) < n := by omega
  have hw := w64s (n := i) (by omega)
  have hL' : h[L]? = some (.arr 0 1 true (eIs (iotaI i ++ Z1 (d + 1) 0) ++ [])) := by rw [Z4]; exact hL
  have x1 := ix_hv (n := n) (c := none) hL (k := .i64) (j := i) (by omega)
  have s1 := stI hL' (j := i) (by simp [iotaI_len]) (i : Int)
  rw [Z4] at s1
  have e1 : (iotaI i ++ Z1 (d + 1) 0).set i (i : Int) = iotaI (i + 1) ++ Z1 d 0 := by
   rw [List.set_append_right _ _ (by rw [iotaI_len]; exact Nat.le_refl _), iotaI_len, Nat.sub_self, Q9, Q0, iotaI_succ]
   simp
  rw [e1] at s1
  have e := ih (i + 1) m (h.set L (.arr 0 1 true (eIs (iotaI (i + 1) ++ Z1 d 0)))) (by omega) (by omega) (get_set_eq hL)
  rw [set_set] at e
  rw [← e]
  simp only [loop_e,EB_pack_Lay_1,Zaa,Zab,Zac,Zad,Zae,Zag,Zaj,Zak,Zan,Zar,Zau,Zay,Zba,Zbi,Zbk,Zbp,Zbq,Zcb,Zcv,Zcw,Zcx,Zcy,Zdb,Zdc,Zdd,Q0,Q3,Q1,Q2,Zde,Zdh,decide_true,eq_self,h3,x1,s1,hw]
theorem f_isNaN (x : Int) (H : AHeap) : lim G0.cfg (.func 50) [.int .i64 x] H = some (.bool false, H) := by
 refine lim_flat rfl rfl P_cmp_isNaN_int 1 (fun h => fz_1 rfl) ?_ (fun _ => rfl) H
 rw [R_cmp_isNaN_int]
 simp only [Zab,Zac,Zai,Zaj,Zak,Zay,Zbi,Zbk,Zbq,Zcu,Zcv,Zcw,Zcx,Q0,Q3,Q1,Q2,Z0,Zdm,decide_true,Z3,Q4,Q5,Nat.reduceAdd,Nat.reduceSub,eq_self,true_and,Q4,Q5,Q9,Q8,Q6,Q7,resAll,resVals,resVal,Z2,Prod.mk.injEq,true_and,exists_eq']
def cmpD (x y : Int) : Int := if x < y then -1 else if y < x then 1 else 0
theorem f_Compare (x y : Int) (H : AHeap) : lim G0.cfg (.func 37) [.int .i64 x, .int .i64 y] H = some (.int .i64 (cmpD x y), H) := by
 refine lim_flat rfl rfl P_cmp_Compare_int 1 (fun h => fz_2 rfl rfl) ?_ (fun _ => rfl) H
 have n1 := f_isNaN x
 have n2 := f_isNaN y
 rw [R_cmp_Compare_int]
 unfold cmpD
 by_cases q1 : x < y
 ·simp only [Zaa,Zab,Zac,Zad,Zai,Zaj,Zak,Zam,Zar,Zas,Zay,Zaz,Zbi,Zbk,Zbq,Zcp,Zcq,Zcu,Zcv,Zcw,Zcx,Zcz,Zda,Q0,Q3,Q1,Q2,Z0,Zdh,decide_true,Q4,Q5,if_true,Nat.reduceAdd,Nat.reduceSub,Int.reduceNeg,eq_self,true_and,Q4,Q5,Q9,Q8,Q6,Q7,n1,n2,q1,resAll,resVals,resVal,Z2,Prod.mk.injEq,true_and,exists_eq']
 ·by_cases q2 : y < x
  ·simp only [Zaa,Zab,Zac,Zad,Zai,Zaj,Zak,Zam,Zar,Zas,Zay,Zaz,Zbi,Zbk,Zbq,Zcp,Zcq,Zcu,Zcv,Zcw,Zcx,Zcz,Zda,Q0,Q3,Q1,Q2,Z0,Zdh,Zdj,decide_true,decide_false,Q4,Q5,if_true,if_false,Nat.reduceAdd,Nat.reduceSub,Int.reduceNeg,eq_self,true_and,Q4,Q5,Q9,Q8,Q6,Q7,n1,n2,q1,q2,resAll,resVals,resVal,Z2,Prod.mk.injEq,true_and,exists_eq']
  ·simp only [Zaa,Zab,Zac,Zad,Zai,Zaj,Zak,Zas,Zay,Zaz,Zbi,Zbk,Zbq,Zcp,Zcq,Zcu,Zcv,Zcw,Zcx,Zcz,Zda,Q0,Q3,Q1,Q2,Z0,Zdh,Zdj,decide_false,Q4,Q5,if_false,Nat.reduceAdd,Nat.reduceSub,Int.reduceNeg,eq_self,true_and,Q4,Q5,Q9,Q8,Q6,Q7,n1,n2,q1,q2,resAll,resVals,resVal,Z2,Prod.mk.injEq,true_and,exists_eq']
theorem OwnG.ix1 {cs : List (List AV)} {v : AV} {h : AHeap} {q : Option Nat} (ho : OwnG 1 cs v h q) {j : Nat} {rv : AV} (hj : cs[j]? = some [rv]) : ∃ p, (∀ k : IntKind, aindexAddr h 1 v (.int k j) = some p) ∧ aload h 1 false p = some rv := by
 have hl := (List.getElem?_eq_some_iff.1 hj).1
 rcases ho with ⟨h1, _⟩ | ⟨h1, i, ver, h2, h3, h4⟩
 ·subst h1; simp at hl
 ·subst h3
  refine ⟨.ptr i ver j 0, fun k => ix_hv h4 hl, ?_⟩
  rw [ld_p h 1 i ver j 0 false 1 false _ _ h4 hj]
  rfl
section
variable {own : List (List Int)} {cs : List (List AV)} {ov : AV} {h : AHeap} {q : Option Nat}
theorem f_count (e2 : h[2]? = some (.arr 0 1 true [[ov]])) (ho : OwnG 1 cs ov h q) (hc : RowsC own cs) (hm : ∀ r ∈ own, r.length ≤ 1000000) (x : Nat) (hx : x < own.length) : lim G0.cfg (.func 33) [.int .i64 x, .ptr 2 0 0 0] h = some (.int .i64 (cntD own[x]), h) := by
 refine lim_func rfl P_pack_Lay_2 1 ?_
 obtain ⟨rv, h1, h2⟩ := hc.2 x hx
 obtain ⟨p, p1, p2⟩ := ho.ix1 h1
 have ff := f_full h2 (by have := hm _ (List.getElem_mem hx); omega)
 have l2 : aload h 1 false (.ptr 2 0 0 0) = some ov := by rw [ld_p h 1 2 0 0 0 false 1 true _ _ e2 rfl]; rfl
 rw [R_pack_Lay_2]
 simp only [Zab,Zac,Zai,Zaj,Zak,Zay,Zaz,Zbi,Zbk,Zbo,Zcb,Zcp,Zcq,Zcu,Zcv,Zcw,Zcx,Zcz,Zda,Q0,Q3,Q1,Q2,Z0,Q4,Q5,Nat.reduceAdd,Nat.reduceSub,eq_self,Q4,Q5,Q9,Q8,Q6,Q7,l2,p1,p2,ff,resAll,resVals,resVal]
def keyD (own : List (List Int)) (x : Int) : Int := -(cntD (own.getD x.toNat []) : Int)
theorem cmp_ok (L : Nat) (hL : 3 ≤ L) (hq : ∀ i, q = some i → i < L) (hc : RowsC own cs) (hm : ∀ r ∈ own, r.length ≤ 1000000) :
  CmpOk L 36 [.ptr (L + 1) 0 0 0] (keyD own) (fun x => 0 ≤ x ∧ x < own.length) (fun h => h[2]? = some (.arr 0 1 true [[ov]]) ∧ OwnG 1 cs ov h q ∧ h[L + 1]? = some (.arr 0 1 true [[.fn (.func 33) [] [.ptr 2 0 0 0]]])) := by
 refine ⟨fun x y h hx hy hE => ?_, fun h o hE => ?_⟩
 ·obtain ⟨e2, ho, e3⟩ := hE
  obtain ⟨a, rfl⟩ : ∃ a : Nat, x = (a : Int) := ⟨x.toNat, by omega⟩
  obtain ⟨b, rfl⟩ : ∃ b : Nat, y = (b : Int) := ⟨y.toNat, by omega⟩
  have ha : a < own.length := by omega
  have hb : b < own.length := by omega
  have c1 := f_count e2 ho hc hm a ha
  have c2 := f_count e2 ho hc hm b hb
  have c3 := f_Compare (cntD own[b]) (cntD own[a])
  have l3 : aload h 1 false (.ptr (L + 1) 0 0 0) = some (.fn (.func 33) [] [.ptr 2 0 0 0]) := by rw [ld_p h 1 (L + 1) 0 0 0 false 1 true _ _ e3 rfl]; rfl
  refine ⟨cmpD (cntD own[b]) (cntD own[a]), lim_func rfl P_pack_Lay_3 1 ?_, ?_⟩
  ·rw [R_pack_Lay_3]
   simp only [Zab,Zac,Zai,Zaj,Zak,Zay,Zaz,Zbi,Zbk,Zbo,Zcp,Zcq,Zcu,Zcv,Zcw,Zcx,Zcz,Zda,Q0,Q3,Q1,Q2,Z0,Q4,Q5,Nat.reduceAdd,Nat.reduceSub,eq_self,Q4,Q5,Q9,Q8,Q6,Q7,ED_pack_Lay_3_0,EQ_pack_Lay_3_0_0,EQ_pack_Lay_3_0_1,EQ_pack_Lay_3_0_2,EQ_pack_Lay_3_0_3,EQ_pack_Lay_3_0_4,EQ_pack_Lay_3_0_5,EQ_pack_Lay_3_0_6,EQ_pack_Lay_3_0_7,EQ_pack_Lay_3_0_8,EQ_pack_Lay_3_0_9,EQ_pack_Lay_3_0_10,dq_s,ds_n,ds_c,dwf_s,Fst_eq,l3,c1,c2,c3,Z4,resAll,resVals,resVal]
  ·have g1 : own.getD ((a : Int).toNat) [] = own[a] := by simp [ha]
   have g2 : own.getD ((b : Int).toNat) [] = own[b] := by simp [hb]
   unfold keyD cmpD
   rw [g1, g2]
   split
   ·omega
   ·split <;> omega
 ·obtain ⟨e2, ho, e3⟩ := hE
  exact ⟨get_set_ne e2 (by omega), ho.frame fun i o e1 e2 => get_set_ne e2 (by have := hq i e1; omega), get_set_ne e3 (by omega)⟩
end
end Go.Proofs.Ytkgndbhflehhhaa.Ai
namespace Go.Proofs.Ytkgndbhflehhhaa.Ai
open Go Go.Proofs
open AV renaming junk → J
open List renaming set_cons_zero → Q0, getD_cons_zero → Q1, getD_cons_succ → Q2, set_cons_succ → Q3, length_cons → Q4, length_nil → Q5, cons_append → Q6, nil_append → Q7, replicate_zero → Q8, replicate_succ → Q9, replicate → Z1, append_nil → Z4
open Option renaming map_some → Z0
open Option.some renaming injEq → Z2
open Bool renaming not_true → Z3, not_false → Z5
set_option linter.unusedVariables false
set_option linter.unusedSimpArgs false
set_option maxRecDepth 10000
set_option maxHeartbeats 4000000
def fitsD (chk : List Int) : List Int → Nat → Bool
 | [], _ => true
 | x :: r, k => bif decide (x ≠ 0) && (decide (k < chk.length) && decide (chk.getD k 0 ≠ 0)) then false else fitsD chk r (k + 1)
theorem fitsD_end (chk : List Int) : ∀ (r : List Int) (k : Nat), chk.length ≤ k → fitsD chk r k = true := by
 intro r
 induction r with
 | nil => intros; rfl
 | cons x r ih =>
  intro k hk
  have h1 : decide (k < chk.length) = false := decide_eq_false (by omega)
  rw [fitsD, h1, Bool.false_and, Bool.and_false, cond_false]
  exact ih (k + 1) (by omega)
def baseGo (chk row : List Int) : Nat → Nat → Nat
 | 0, k => k
 | d + 1, k => bif fitsD chk row k then k else baseGo chk row d (k + 1)
def baseD (chk row : List Int) : Nat := baseGo chk row chk.length 0
theorem baseGo_le (chk row : List Int) : ∀ (d k : Nat), baseGo chk row d k ≤ k + d := by
 intro d
 induction d with
 | zero => intro k; exact Nat.le_refl _
 | succ d ih =>
  intro k
  rw [baseGo]
  cases fitsD chk row k with
  | true => simp
  | false => have := ih (k + 1); simp; omega
theorem baseD_le (chk row : List Int) : baseD chk row ≤ chk.length := by have := baseGo_le chk row chk.length 0; unfold baseD; omega
theorem w64a {a b : Nat} (h : a + b < 9223372036854775807) : IntKind.i64.wrap ((a : Int) + b) = ((a + b : Nat) : Int) := by
 rw [w64 (by omega) (by omega)]; omega
section
variable {own : List (List Int)} {cs : List (List AV)} {ov kv v0 v1 v2 : AV} {h : AHeap} {q qk : Option Nat} {chk : List Int}
theorem f_free (e2 : h[2]? = some (.arr 0 1 true [[ov]])) (ho : OwnG 1 cs ov h q) (hc : RowsC own cs) (x : Nat) (hx : x < own.length) (hm : own[x].length ≤ 1000000) {p : Nat} (e3 : h[p]? = some (.arr 0 1 true [[.int .i64 x]]))
  (e1 : h[1]? = some (.arr 0 4 true [[v0, v1, v2, kv]])) (hk : GrowV chk kv h qk) (k : Nat) (hk1 : k ≤ 1000000000) (hk2 : chk.length ≤ 1000000000) :
  lim G0.cfg (.func 38) [.int .i64 k, .ptr 2 0 0 0, .ptr p 0 0 0, .ptr 1 0 0 0] h = some (.bool (fitsD chk own[x] k), h) := by
 obtain ⟨row, hrow⟩ : ∃ r, r = own[x] := ⟨_, rfl⟩
 obtain ⟨rv, h1, h2⟩ := hc.2 x hx
 rw [← hrow] at h2 hm ⊢
 obtain ⟨pp, p1, p2⟩ := ho.ix1 h1
 have l2 : aload h 1 false (.ptr 2 0 0 0) = some ov := by rw [ld_p h 1 2 0 0 0 false 1 true _ _ e2 rfl]; rfl
 have l3 : aload h 1 false (.ptr p 0 0 0) = some (.int .i64 x) := by rw [ld_p h 1 p 0 0 0 false 1 true _ _ e3 rfl]; rfl
 have l1 : aload h 1 false (.ptr 1 0 0 3) = some kv := by rw [ld_p h 1 1 0 0 3 false 4 true _ _ e1 rfl]; rfl
 have lr := h2.len h
 have lk := hk.len h
 refine lim_func rfl P_pack_Lay_4 (row.length + 1) ?_
 have loop : ∀ (d i m : Nat), row.length = i + d → d < m → loopN (evalCode (lim G0.cfg) (row.length + 1) B_pack_Lay_4_0) m ⟨(.int .i64 k::J::J::.ptr 1 0 0 0::J::J::J::J::J::J::J::rv :: .int .i64 row.length :: .int .i64 i::J::J::J::J::J::J::J::J::J::J::J::J::J::J::J::J::J::J::J::J::J::J::J::J::J::J::[]), h⟩ = bif fitsD chk (row.drop i) (k + i) then some (.exit 0, ⟨(J::J::J::J::J::J::J::J::J::J::J::J::J::J::J::J::J::J::J::J::J::J::J::J::J::J::J::J::J::J::J::J::J::J::J::J::J::J::J::J::[]), h⟩) else some (.ret, ⟨(J::J::J::J::J::.bool false::J::J::J::J::J::J::J::J::J::J::J::J::J::J::J::J::J::J::J::J::J::J::J::J::J::J::J::J::J::J::J::J::J::J::[]), h⟩) := by
  intro d
  induction d with
  | zero =>
   intro i m h1 h2
   obtain ⟨m, rfl⟩ : ∃ q, m = q + 1 := ⟨m - 1, by omega⟩
   have h3 : ¬ ((i : Int) < row.length) := by omega
   have q1 : row.drop i = [] := List.drop_eq_nil_iff.2 (by omega)
   rw [q1, fitsD, cond_true]
   simp only [loop_e,EB_pack_Lay_4_0,Zab,Zac,Zad,Zag,Zah,Zaj,Zak,Zal,Zas,Zav,Zay,Zbi,Zbq,Zcv,Zcx,Zdc,Zdd,Q0,Q3,Q1,Q2,Zdh,decide_false,eq_self,h3]
  | succ d ih =>
   intro i m h1' h2'
   obtain ⟨m, rfl⟩ : ∃ q, m = q + 1 := ⟨m - 1, by omega⟩
   have h3 : i < row.length := by omega
   have h3' : (i : Int) < row.length := by omega
   have hw := w64s (n := i) (by omega)
   have hw2 := w64a (a := k) (b := i) (by omega)
   have q1 : row.drop i = row[i] :: row.drop (i + 1) := List.drop_eq_getElem_cons h3
   have xa := fun h => h2.ix h .i64 i h3
   have lv : ∀ z : Int, aload h 1 false (.vptr [.int .i64 z] 0) = some (.int .i64 z) := fun _ => rfl
   have e := ih (i + 1) m (by omega) (by omega)
   rw [q1, fitsD]
   rw [← Nat.add_assoc] at e
   by_cases z : row[i] = 0
   case pos =>
    have d1 : decide (row[i] ≠ 0) = false := decide_eq_false (by simp [z])
    have d2 : decide (row[i] = 0) = true := decide_eq_true z
    rw [d1, Bool.false_and, cond_false, ← e]
    simp only [loop_e,EB_pack_Lay_4_0,Zaa,Zab,Zac,Zad,Zae,Zag,Zaj,Zak,Zan,Zar,Zas,Zau,Zay,Zbe,Zbh,Zbi,Zbj,Zbk,Zbl,Zbo,Zbq,Zcb,Zcv,Zcw,Zcx,Zdb,Zdc,Zdd,Q0,Q3,Q1,Q2,Zde,Zdh,Zdm,Zen,decide_true,Z3,eq_self,h3',xa,d2,hw]
   case neg =>
   have d1 : decide (row[i] ≠ 0) = true := decide_eq_true z
   have d2 : decide (row[i] = 0) = false := decide_eq_false z
   rw [d1, Bool.true_and]
   by_cases y : k + i < chk.length
   case neg =>
    have d3 : decide (k + i < chk.length) = false := decide_eq_false y
    have d4 : ¬ (((k + i : Nat) : Int) < chk.length) := by omega
    rw [d3, Bool.false_and, cond_false, ← e]
    simp only [loop_e,EB_pack_Lay_4_0,Zaa,Zab,Zac,Zad,Zae,Zag,Zaj,Zak,Zan,Zar,Zas,Zau,Zay,Zbb,Zbe,Zbg,Zbh,Zbi,Zbj,Zbk,Zbl,Zbo,Zbq,Zby,Zcb,Zcg,Zcv,Zcw,Zcx,Zdb,Zdc,Zdd,Q0,Q3,Q1,Q2,Zde,Zdh,Zdm,Zdx,Zen,decide_true,decide_false,Z5,Nat.reduceAdd,eq_self,h3',xa,d2,hw,hw2,l1,lk,d4]
   case pos =>
    have d3 : decide (k + i < chk.length) = true := decide_eq_true y
    have d4 : ((k + i : Nat) : Int) < chk.length := by omega
    obtain ⟨ii, k1, k2, k3⟩ := hk.ix y
    have gd : chk.getD (k + i) 0 = chk[k + i] := by simp [y]
    rw [d3, Bool.true_and, gd]
    by_cases u : chk[k + i] = 0
    ·have d5 : decide (chk[k + i] = 0) = true := decide_eq_true u
     have d6 : decide (chk[k + i] ≠ 0) = false := decide_eq_false (by simp [u])
     rw [d6, cond_false, ← e]
     simp only [loop_e,EB_pack_Lay_4_0,Zaa,Zab,Zac,Zad,Zae,Zag,Zaj,Zak,Zan,Zar,Zas,Zau,Zay,Zbb,Zbg,Zbi,Zbj,Zbk,Zbl,Zbo,Zbq,Zby,Zcb,Zcg,Zcv,Zcw,Zcx,Zdb,Zdc,Zdd,Q0,Q3,Q1,Q2,Zde,Zdh,Zdm,Zdx,Zen,decide_true,Z3,Z5,Nat.reduceAdd,eq_self,h3',xa,d2,hw,hw2,l1,lk,d4,k2,k3,d5]
    ·have d5 : decide (chk[k + i] = 0) = false := decide_eq_false u
     have d6 : decide (chk[k + i] ≠ 0) = true := decide_eq_true u
     rw [d6, cond_true, cond_false]
     simp only [loop_e,EB_pack_Lay_4_0,Zaa,Zab,Zac,Zad,Zae,Zag,Zai,Zaj,Zak,Zam,Zao,Zar,Zaw,Zay,Zbb,Zbg,Zbi,Zbj,Zbk,Zbl,Zbo,Zbq,Zby,Zcb,Zcg,Zcv,Zcw,Zcx,Zdb,Zdc,Zdd,Q0,Q3,Q1,Q2,Zde,Zdh,Zdm,Zdx,Zen,decide_true,Z5,Nat.reduceAdd,eq_self,h3',xa,d2,hw2,l1,lk,d4,k2,k3,d5]
 have e := loop row.length 0 (row.length + 1) (by omega) (by omega)
 obtain ⟨bb, hbb⟩ : ∃ b, b = fitsD chk row k := ⟨_, rfl⟩
 rw [List.drop_zero, show fitsD chk row (k + 0) = bb from hbb.symm, z0] at e
 rw [R_pack_Lay_4, ← hbb]
 cases bb with
 | true =>
  rw [cond_true] at e
  simp only [Zab,Zac,Zae,Zaf,Zag,Zai,Zaj,Zak,Zap,Zat,Zay,Zbi,Zbk,Zbo,Zcb,Zcg,Zcu,Zcv,Zcw,Zcx,Zdb,Zdc,Zdd,Q0,Q3,Q1,Q2,Z0,Q4,Q5,Nat.reduceAdd,Nat.reduceSub,eq_self,Q4,Q5,Q9,Q8,Q6,Q7,l2,l3,p1,p2,lr,e,resAll,resVals,resVal]
 | false =>
  rw [cond_false] at e
  simp only [Zab,Zac,Zae,Zaf,Zag,Zaj,Zak,Zam,Zao,Zat,Zay,Zbi,Zbk,Zbo,Zcb,Zcg,Zcu,Zcv,Zcw,Zcx,Zdb,Zdc,Zdd,Q0,Q3,Q1,Q2,Z0,Q4,Q5,Nat.reduceAdd,Nat.reduceSub,eq_self,Q4,Q5,Q9,Q8,Q6,Q7,l2,l3,p1,p2,lr,e,resAll,resVals,resVal]
theorem f_Lay_base (e2 : h[2]? = some (.arr 0 1 true [[ov]])) (ho : OwnG 1 cs ov h q) (hc : RowsC own cs) (x : Nat) (hx : x < own.length) (hm : own[x].length ≤ 1000000) {p : Nat} (e3 : h[p]? = some (.arr 0 1 true [[.int .i64 x]]))
  (e1 : h[1]? = some (.arr 0 4 true [[v0, v1, v2, kv]])) (hk : GrowV chk kv h qk) (hk2 : chk.length ≤ 1000000000) (N : Nat) (w62 w63 w64' : AV) : ∀ (d k m : Nat), chk.length ≤ k + d → k ≤ chk.length → d < m →
  loopN (evalCode (lim G0.cfg) N B_pack_Lay_3) m ⟨(J::J::.ptr 0 0 0 0 :: .ptr 1 0 0 0 :: .ptr 2 0 0 0::J::J::J::J::J::J::J::.ptr p 0 0 0 :: .fn (.func 38) [] [.ptr 2 0 0 0, .ptr p 0 0 0, .ptr 1 0 0 0] :: .int .i64 k::J::J::J::J::J::J::J::J::J::J::J::J::J::J::J::J::J::J::J::J::J::J::J::J::J::J::J::J::J::J::J::J::J::J::J::J::J::J::J::J::J::J::J::J::J::J::J::w62 :: w63 :: w64'::J::J::J::J::J::J::J::J::J::J::J::J::J::J::J::J::J::J::J::J::J::J::J::J::J::J::J::J::J::J::J::J::J::J::J::J::J::J::J::J::J::J::J::J::J::J::J::J::J::J::J::J::J::J::J::J::J::J::J::J::J::[]), h⟩ = some (.exit 6, ⟨(J::J::.ptr 0 0 0 0 :: .ptr 1 0 0 0 :: .ptr 2 0 0 0::J::J::J::J::J::J::J::.ptr p 0 0 0::J::.int .i64 (baseGo chk own[x] d k)::J::J::J::J::J::J::J::J::J::J::J::J::J::J::J::J::J::J::J::J::J::J::J::J::J::J::J::J::J::J::J::J::J::J::J::J::J::J::J::J::J::J::J::J::J::J::J::w62 :: w63 :: w64'::J::J::J::J::J::J::J::J::J::J::J::J::J::J::J::J::J::J::J::J::J::J::J::J::J::J::J::J::J::J::J::J::J::J::J::J::J::J::J::J::J::J::J::J::J::J::J::J::J::J::J::J::J::J::J::J::J::J::J::J::J::[]), h⟩) := by
 intro d
 induction d with
 | zero =>
  intro k m h1 h2 h3
  obtain ⟨m, rfl⟩ : ∃ q, m = q + 1 := ⟨m - 1, by omega⟩
  have f := f_free e2 ho hc x hx hm e3 e1 hk k (by omega) hk2
  rw [fitsD_end chk _ k (by omega)] at f
  rw [baseGo]
  simp only [loop_e,EB_pack_Lay_3,Zab,Zac,Zad,Zag,Zah,Zaj,Zak,Zal,Zas,Zav,Zay,Zaz,Zbi,Zbk,Zbr,Zcp,Zcq,Zcv,Zcx,Zcz,Zda,Zdb,Zdc,Zdd,Q0,Q3,Q1,Q2,Zdr,Z3,eq_self,Q6,Q7,Q7,Q6,f]
 | succ d ih =>
  intro k m h1 h2 h3
  obtain ⟨m, rfl⟩ : ∃ q, m = q + 1 := ⟨m - 1, by omega⟩
  have f := f_free e2 ho hc x hx hm e3 e1 hk k (by omega) hk2
  have hw := w64s (n := k) (by omega)
  rw [baseGo]
  cases fb : fitsD chk own[x] k with
  | true =>
   rw [fb] at f
   rw [cond_true]
   simp only [loop_e,EB_pack_Lay_3,Zab,Zac,Zad,Zag,Zah,Zaj,Zak,Zal,Zas,Zav,Zay,Zaz,Zbi,Zbk,Zbr,Zcp,Zcq,Zcv,Zcx,Zcz,Zda,Zdb,Zdc,Zdd,Q0,Q3,Q1,Q2,Zdr,Z3,eq_self,Q6,Q7,Q7,Q6,f]
  | false =>
   have hlt : k < chk.length := by
    rcases Nat.lt_or_ge k chk.length with h | h
    ·exact h
    ·rw [fitsD_end chk _ k h] at fb; cases fb
   rw [fb] at f
   rw [cond_false, ← ih (k + 1) m (by omega) (by omega) (by omega)]
   simp only [loop_e,EB_pack_Lay_3,Zaa,Zab,Zac,Zad,Zae,Zag,Zaj,Zak,Zan,Zar,Zau,Zay,Zaz,Zbi,Zbk,Zbq,Zbr,Zcp,Zcq,Zcv,Zcw,Zcx,Zcz,Zda,Zdb,Zdc,Zdd,Q0,Q3,Q1,Q2,Zde,Zdr,Z5,eq_self,Q6,Q7,Q7,Q6,f,hw]
end
end Go.Proofs.Ytkgndbhflehhhaa.Ai
