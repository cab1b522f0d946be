/- slices.IndexFunc, slices.ContainsFunc, walked for the kinds of elements that are met. By program (mk_gr.py). -/
import Derived.Test.YtkimloceaihplaamFn
import Derived.Test.YtkimloceaihplaamGA
import Derived.Test.YtkimloceaihplaamAi27
namespace Go.Proofs.Ytkimloceaihplaa.Ai
open Go Go.Proofs
open AV renaming junk → J
open List renaming getD_cons_zero → Q0, getD_cons_succ → Q1, set_cons_zero → Q2, set_cons_succ → Q3, length_cons → Q4, length_nil → Q5, cons_append → Q6, nil_append → Q7, replicate_succ → Q8, replicate_zero → Q9, length_map → Z2, drop_eq_getElem_cons → Z3, drop_eq_nil_iff → Z4, drop_zero → Z5
open Option.some renaming injEq → Z0
open Option renaming map_some → Z1
set_option linter.unusedVariables false
set_option linter.unusedSimpArgs false
set_option maxRecDepth 10000
def ixGo {α : Type} (p : α → Bool) : List α → Nat → Option Nat
 | [], _ => none
 | x :: l, j => if p x then some j else ixGo p l (j + 1)
def ixInt : Option Nat → Int
 | some j => j
 | none => -1
theorem ixGo_any {α : Type} (p : α → Bool) : ∀ (l : List α) (j : Nat), decide ((0 : Int) ≤ ixInt (ixGo p l j)) = l.any p
 | [], j => by simp [ixGo, ixInt]
 | x :: l, j => by
  by_cases h : p x = true
  ·simp [ixGo, h, ixInt]
  ·simpa [ixGo, h] using ixGo_any p l (j + 1)
theorem f_IndexFunc_sint_int_loop {l : List Int} {g : Nat} {caps : List AV} {p : Int → Bool} (hp : ∀ x ∈ l, ∀ H, lim G0.cfg (.func g) ([.int .i64 x] ++ caps) H = some (.bool (p x), H)) (hm : l.length ≤ maxLen) (h : AHeap) (n : Nat) : ∀ (d i m : Nat), l.length = i + d → d < m →
  loopN (evalCode (lim G0.cfg) n B_slices_IndexFunc_sint_int_0) m ⟨[.vsl false (l.map eI), .fn (.func g) [] caps, J,J,J,J,J, .int .i64 l.length, .int .i64 i, J,J,J,J,J,J,J,J,J,J], h⟩ =
   match ixGo p (l.drop i) i with
   | none => some (.exit 0, ⟨[J,J,J,J,J,J,J,J,J,J,J,J,J,J,J,J,J,J,J], h⟩)
   | some j => some (.ret, ⟨[J,J,J,J, .int .i64 j, J,J,J,J,J,J,J,J,J,J,J,J,J,J], h⟩) := by
 rw [maxLen_eq] at hm
 intro d
 induction d with
 | zero =>
  intro i m h1 h2
  obtain ⟨m, rfl⟩ : ∃ q, m = q + 1 := ⟨m - 1, by omega⟩
  have e1 : l.drop i = [] := Z4.2 (by omega)
  have h3 : ¬ ((i : Int) < l.length) := by omega
  simp only [loop_e,EB_slices_IndexFunc_sint_int_0,Zab,Zac,Zad,Zag,Zah,Zaj,Zak,Zal,Zas,Zav,Zay,Zbi,Zbq,Zcv,Zcx,Zdc,Zdd,Q2,Q3,Q0,Q1,Zdh,decide_false,eq_self,h3,e1,ixGo]
 | succ d ih =>
  intro i m h1 h2
  obtain ⟨m, rfl⟩ : ∃ q, m = q + 1 := ⟨m - 1, by omega⟩
  have h3 : i < l.length := by omega
  have h3' : (i : Int) < l.length := by omega
  have e1 : l.drop i = l[i] :: l.drop (i + 1) := Z3 h3
  have hw := w64s (n := i) (by omega)
  have hc := hp l[i] (List.getElem_mem h3)
  simp only [Q6,Q7] at hc
  simp only [loop_e,EB_slices_IndexFunc_sint_int_0,Zaa,Zab,Zac,Zad,Zae,Zak,Zar,Zay,Zaz,Zbi,Zbk,Zbo,Zbq,Zcb,Zcp,Zcq,Zcv,Zcx,Zcz,Zda,Q2,Q3,Q0,Q1,Zdh,Zen,decide_true,Zen,h3',e1,ix_map eI _ 1 _ l _ i h3 rfl,hc,Q6,Q7,ixGo]
  cases hpx : p l[i]
  ·simp only [hw,Zaa,Zab,Zag,Zaj,Zak,Zan,Zas,Zau,Zay,Zbi,Zbk,Zbq,Zcv,Zcw,Zcx,Zdb,Zdc,Zdd,Q2,Q3,Q0,Q1,Zde,if_false,Bool.false_eq_true]
   exact ih (i + 1) m (by omega) (by omega)
  ·simp only [Zab,Zac,Zag,Zai,Zaj,Zak,Zam,Zao,Zar,Zaw,Zbi,Zbk,Zcv,Zcx,Zdb,Zdc,Zdd,Q2,Q3,Q0,Q1,if_true,eq_self]
theorem f_IndexFunc_sint_int {l : List Int} {g : Nat} {caps : List AV} {p : Int → Bool} (hp : ∀ x ∈ l, ∀ H, lim G0.cfg (.func g) ([.int .i64 x] ++ caps) H = some (.bool (p x), H)) (hm : l.length ≤ maxLen) (hcp : ∀ h, mapO (freeze h 999) caps = some (caps.map fun x => (x, true))) (H : AHeap) :
  lim G0.cfg (.func 78) [.vsl false (l.map eI), .fn (.func g) [] caps] H = some (.int .i64 (ixInt (ixGo p l 0)), H) := by
 refine lim_flat rfl rfl P_slices_IndexFunc_sint_int (l.length + 1) (fun h => fz_2 rfl (fz_fn 999 (hcp h))) ?_ (fun _ => rfl) H
 have hl := f_IndexFunc_sint_int_loop hp hm [] (l.length + 1) l.length 0 (l.length + 1) (by omega) (by omega)
 rw [Z5, z0] at hl
 rw [R_slices_IndexFunc_sint_int]
 cases he : ixGo p l 0 <;> simp only [he] at hl <;> simp only [Zab,Zac,Zae,Zaf,Zag,Zai,Zaj,Zak,Zam,Zao,Zap,Zat,Zay,Zbi,Zbk,Zcg,Zcu,Zcv,Zcw,Zcx,Zdb,Zdc,Zdd,Q2,Q3,Q0,Q1,Z1,Zdt,Q4,Q5,Nat.reduceAdd,Nat.reduceSub,Int.reduceNeg,eq_self,true_and,Z2,Q4,Q5,Q8,Q9,Q6,Q7,Z2,hl,resAll,resVals,resVal,Z0,Prod.mk.injEq,true_and,exists_eq',ixInt]
theorem f_ContainsFunc_sint_int_run {l : List Int} {g : Nat} {caps : List AV} {p : Int → Bool} (hp : ∀ x ∈ l, ∀ H, lim G0.cfg (.func g) ([.int .i64 x] ++ caps) H = some (.bool (p x), H)) (hm : l.length ≤ maxLen) (hcp : ∀ h, mapO (freeze h 999) caps = some (caps.map fun x => (x, true))) :
  ∃ h', runFn (lim G0.cfg) 1 A_slices_ContainsFunc_sint_int [.vsl false (l.map eI), .fn (.func g) [] caps] [] = some (.bool (l.any p), h') := by
 rw [R_slices_ContainsFunc_sint_int]
 simp only [Zab,Zac,Zai,Zaj,Zak,Zay,Zaz,Zbi,Zbk,Zbq,Zcp,Zcq,Zcu,Zcv,Zcw,Zcx,Zcz,Zda,Q2,Q3,Q0,Q1,Z1,Zdk,Q4,Q5,Nat.reduceAdd,Nat.reduceSub,eq_self,true_and,Q4,Q5,Q8,Q9,Q6,Q7,f_IndexFunc_sint_int hp hm hcp,ixGo_any,resAll,resVals,resVal,Z0,Prod.mk.injEq,true_and,exists_eq']
theorem f_ContainsFunc_sint_int {l : List Int} {g : Nat} {caps caps' : List AV} {bs : List (AV × Bool)} {p : Int → Bool} {H : AHeap} (hf : mapO (freeze H 999) caps = some bs) (hbs : bs.map (·.1) = caps') (hp : ∀ x ∈ l, ∀ H, lim G0.cfg (.func g) ([.int .i64 x] ++ caps') H = some (.bool (p x), H)) (hm : l.length ≤ maxLen)
  (hcp : ∀ h, mapO (freeze h 999) caps' = some (caps'.map fun x => (x, true))) : lim G0.cfg (.func 43) [.vsl false (l.map eI), .fn (.func g) [] caps] H = some (.bool (l.any p), H) := by
 obtain ⟨h', hr⟩ := f_ContainsFunc_sint_int_run hp hm hcp
 subst hbs
 have h1 : mapO (freeze H 1000) [.vsl false (l.map eI), .fn (.func g) [] caps] = some [(.vsl false (l.map eI), true), (.fn (.func g) [] (bs.map (·.1)), bs.all (·.2))] := mapO_2 (fz_vsl _ _ _) (fz_fnc60 hf)
 exact lim_fz rfl rfl P_slices_ContainsFunc_sint_int 1 h1 hr (rfl : freeze h' 1000 (.bool (l.any p)) = some (.bool (l.any p), true)) (Bool.or_true _)
theorem f_IndexFunc_sOrigin_Origin_loop {l : List Int} {g : Nat} {caps : List AV} {p : Int → Bool} (hp : ∀ x ∈ l, ∀ H, lim G0.cfg (.func g) ([.int .i64 x] ++ caps) H = some (.bool (p x), H)) (hm : l.length ≤ maxLen) (h : AHeap) (n : Nat) : ∀ (d i m : Nat), l.length = i + d → d < m →
  loopN (evalCode (lim G0.cfg) n B_slices_IndexFunc_sOrigin_Origin_0) m ⟨[.vsl false (l.map eI), .fn (.func g) [] caps, J,J,J,J,J, .int .i64 l.length, .int .i64 i, J,J,J,J,J,J,J,J,J,J], h⟩ =
   match ixGo p (l.drop i) i with
   | none => some (.exit 0, ⟨[J,J,J,J,J,J,J,J,J,J,J,J,J,J,J,J,J,J,J], h⟩)
   | some j => some (.ret, ⟨[J,J,J,J, .int .i64 j, J,J,J,J,J,J,J,J,J,J,J,J,J,J], h⟩) := by
 rw [maxLen_eq] at hm
 intro d
 induction d with
 | zero =>
  intro i m h1 h2
  obtain ⟨m, rfl⟩ : ∃ q, m = q + 1 := ⟨m - 1, by omega⟩
  have e1 : l.drop i = [] := Z4.2 (by omega)
  have h3 : ¬ ((i : Int) < l.length) := by omega
  simp only [loop_e,EB_slices_IndexFunc_sOrigin_Origin_0,Zab,Zac,Zad,Zag,Zah,Zaj,Zak,Zal,Zas,Zav,Zay,Zbi,Zbq,Zcv,Zcx,Zdc,Zdd,Q2,Q3,Q0,Q1,Zdh,decide_false,eq_self,h3,e1,ixGo]
 | succ d ih =>
  intro i m h1 h2
  obtain ⟨m, rfl⟩ : ∃ q, m = q + 1 := ⟨m - 1, by omega⟩
  have h3 : i < l.length := by omega
  have h3' : (i : Int) < l.length := by omega
  have e1 : l.drop i = l[i] :: l.drop (i + 1) := Z3 h3
  have hw := w64s (n := i) (by omega)
  have hc := hp l[i] (List.getElem_mem h3)
  simp only [Q6,Q7] at hc
  simp only [loop_e,EB_slices_IndexFunc_sOrigin_Origin_0,Zaa,Zab,Zac,Zad,Zae,Zak,Zar,Zay,Zaz,Zbi,Zbk,Zbo,Zbq,Zcb,Zcp,Zcq,Zcv,Zcx,Zcz,Zda,Q2,Q3,Q0,Q1,Zdh,Zen,decide_true,Zen,h3',e1,ix_map eI _ 1 _ l _ i h3 rfl,hc,Q6,Q7,ixGo]
  cases hpx : p l[i]
  ·simp only [hw,Zaa,Zab,Zag,Zaj,Zak,Zan,Zas,Zau,Zay,Zbi,Zbk,Zbq,Zcv,Zcw,Zcx,Zdb,Zdc,Zdd,Q2,Q3,Q0,Q1,Zde,if_false,Bool.false_eq_true]
   exact ih (i + 1) m (by omega) (by omega)
  ·simp only [Zab,Zac,Zag,Zai,Zaj,Zak,Zam,Zao,Zar,Zaw,Zbi,Zbk,Zcv,Zcx,Zdb,Zdc,Zdd,Q2,Q3,Q0,Q1,if_true,eq_self]
theorem f_IndexFunc_sOrigin_Origin {l : List Int} {g : Nat} {caps : List AV} {p : Int → Bool} (hp : ∀ x ∈ l, ∀ H, lim G0.cfg (.func g) ([.int .i64 x] ++ caps) H = some (.bool (p x), H)) (hm : l.length ≤ maxLen) (hcp : ∀ h, mapO (freeze h 999) caps = some (caps.map fun x => (x, true))) (H : AHeap) :
  lim G0.cfg (.func 87) [.vsl false (l.map eI), .fn (.func g) [] caps] H = some (.int .i64 (ixInt (ixGo p l 0)), H) := by
 refine lim_flat rfl rfl P_slices_IndexFunc_sOrigin_Origin (l.length + 1) (fun h => fz_2 rfl (fz_fn 999 (hcp h))) ?_ (fun _ => rfl) H
 have hl := f_IndexFunc_sOrigin_Origin_loop hp hm [] (l.length + 1) l.length 0 (l.length + 1) (by omega) (by omega)
 rw [Z5, z0] at hl
 rw [R_slices_IndexFunc_sOrigin_Origin]
 cases he : ixGo p l 0 <;> simp only [he] at hl <;> simp only [Zab,Zac,Zae,Zaf,Zag,Zai,Zaj,Zak,Zam,Zao,Zap,Zat,Zay,Zbi,Zbk,Zcg,Zcu,Zcv,Zcw,Zcx,Zdb,Zdc,Zdd,Q2,Q3,Q0,Q1,Z1,Zdt,Q4,Q5,Nat.reduceAdd,Nat.reduceSub,Int.reduceNeg,eq_self,true_and,Z2,Q4,Q5,Q8,Q9,Q6,Q7,Z2,hl,resAll,resVals,resVal,Z0,Prod.mk.injEq,true_and,exists_eq',ixInt]
theorem f_ContainsFunc_sOrigin_Origin_run {l : List Int} {g : Nat} {caps : List AV} {p : Int → Bool} (hp : ∀ x ∈ l, ∀ H, lim G0.cfg (.func g) ([.int .i64 x] ++ caps) H = some (.bool (p x), H)) (hm : l.length ≤ maxLen) (hcp : ∀ h, mapO (freeze h 999) caps = some (caps.map fun x => (x, true))) :
  ∃ h', runFn (lim G0.cfg) 1 A_slices_ContainsFunc_sOrigin_Origin [.vsl false (l.map eI), .fn (.func g) [] caps] [] = some (.bool (l.any p), h') := by
 rw [R_slices_ContainsFunc_sOrigin_Origin]
 simp only [Zab,Zac,Zai,Zaj,Zak,Zay,Zaz,Zbi,Zbk,Zbq,Zcp,Zcq,Zcu,Zcv,Zcw,Zcx,Zcz,Zda,Q2,Q3,Q0,Q1,Z1,Zdk,Q4,Q5,Nat.reduceAdd,Nat.reduceSub,eq_self,true_and,Q4,Q5,Q8,Q9,Q6,Q7,f_IndexFunc_sOrigin_Origin hp hm hcp,ixGo_any,resAll,resVals,resVal,Z0,Prod.mk.injEq,true_and,exists_eq']
theorem f_ContainsFunc_sOrigin_Origin {l : List Int} {g : Nat} {caps caps' : List AV} {bs : List (AV × Bool)} {p : Int → Bool} {H : AHeap} (hf : mapO (freeze H 999) caps = some bs) (hbs : bs.map (·.1) = caps') (hp : ∀ x ∈ l, ∀ H, lim G0.cfg (.func g) ([.int .i64 x] ++ caps') H = some (.bool (p x), H)) (hm : l.length ≤ maxLen)
  (hcp : ∀ h, mapO (freeze h 999) caps' = some (caps'.map fun x => (x, true))) : lim G0.cfg (.func 82) [.vsl false (l.map eI), .fn (.func g) [] caps] H = some (.bool (l.any p), H) := by
 obtain ⟨h', hr⟩ := f_ContainsFunc_sOrigin_Origin_run hp hm hcp
 subst hbs
 have h1 : mapO (freeze H 1000) [.vsl false (l.map eI), .fn (.func g) [] caps] = some [(.vsl false (l.map eI), true), (.fn (.func g) [] (bs.map (·.1)), bs.all (·.2))] := mapO_2 (fz_vsl _ _ _) (fz_fnc60 hf)
 exact lim_fz rfl rfl P_slices_ContainsFunc_sOrigin_Origin 1 h1 hr (rfl : freeze h' 1000 (.bool (l.any p)) = some (.bool (l.any p), true)) (Bool.or_true _)
theorem f_IndexFunc_sRule_Rule_loop {l : List RuleD} {g : Nat} {caps : List AV} {p : RuleD → Bool} (hp : ∀ x ∈ l, ∀ H, lim G0.cfg (.func g) ([.agg (eRule x)] ++ caps) H = some (.bool (p x), H)) (hm : l.length ≤ maxLen) (h : AHeap) (n : Nat) : ∀ (d i m : Nat), l.length = i + d → d < m →
  loopN (evalCode (lim G0.cfg) n B_slices_IndexFunc_sRule_Rule_0) m ⟨[.vsl false (l.map eRule), .fn (.func g) [] caps, J,J,J,J,J, .int .i64 l.length, .int .i64 i, J,J,J,J,J,J,J,J,J,J], h⟩ =
   match ixGo p (l.drop i) i with
   | none => some (.exit 0, ⟨[J,J,J,J,J,J,J,J,J,J,J,J,J,J,J,J,J,J,J], h⟩)
   | some j => some (.ret, ⟨[J,J,J,J, .int .i64 j, J,J,J,J,J,J,J,J,J,J,J,J,J,J], h⟩) := by
 rw [maxLen_eq] at hm
 intro d
 induction d with
 | zero =>
  intro i m h1 h2
  obtain ⟨m, rfl⟩ : ∃ q, m = q + 1 := ⟨m - 1, by omega⟩
  have e1 : l.drop i = [] := Z4.2 (by omega)
  have h3 : ¬ ((i : Int) < l.length) := by omega
  simp only [loop_e,EB_slices_IndexFunc_sRule_Rule_0,Zab,Zac,Zad,Zag,Zah,Zaj,Zak,Zal,Zas,Zav,Zay,Zbi,Zbq,Zcv,Zcx,Zdc,Zdd,Q2,Q3,Q0,Q1,Zdh,decide_false,eq_self,h3,e1,ixGo]
 | succ d ih =>
  intro i m h1 h2
  obtain ⟨m, rfl⟩ : ∃ q, m = q + 1 := ⟨m - 1, by omega⟩
  have h3 : i < l.length := by omega
  have h3' : (i : Int) < l.length := by omega
  have e1 : l.drop i = l[i] :: l.drop (i + 1) := Z3 h3
  have hw := w64s (n := i) (by omega)
  have hc := hp l[i] (List.getElem_mem h3)
  simp only [Q6,Q7] at hc
  simp only [loop_e,EB_slices_IndexFunc_sRule_Rule_0,Zaa,Zab,Zac,Zad,Zae,Zak,Zar,Zay,Zaz,Zbi,Zbk,Zbo,Zbq,Zcb,Zcp,Zcq,Zcv,Zcx,Zcz,Zda,Q2,Q3,Q0,Q1,Option.bind_some,Zdh,Zea,decide_true,Q4,Q5,if_true,Nat.reduceAdd,Nat.reduceLeDiff,ld_v,part,Z5,List.take_succ_cons,List.take_zero,h3',e1,ix_map eRule _ 5 _ l _ i h3 rfl,hc,Q6,Q7,ixGo]
  cases hpx : p l[i]
  ·simp only [hw,Zaa,Zab,Zag,Zaj,Zak,Zan,Zas,Zau,Zay,Zbi,Zbk,Zbq,Zcv,Zcw,Zcx,Zdb,Zdc,Zdd,Q2,Q3,Q0,Q1,Zde,if_false,Bool.false_eq_true]
   exact ih (i + 1) m (by omega) (by omega)
  ·simp only [Zab,Zac,Zag,Zai,Zaj,Zak,Zam,Zao,Zar,Zaw,Zbi,Zbk,Zcv,Zcx,Zdb,Zdc,Zdd,Q2,Q3,Q0,Q1,if_true,eq_self]
theorem f_IndexFunc_sRule_Rule {l : List RuleD} {g : Nat} {caps : List AV} {p : RuleD → Bool} (hp : ∀ x ∈ l, ∀ H, lim G0.cfg (.func g) ([.agg (eRule x)] ++ caps) H = some (.bool (p x), H)) (hm : l.length ≤ maxLen) (hcp : ∀ h, mapO (freeze h 999) caps = some (caps.map fun x => (x, true))) (H : AHeap) :
  lim G0.cfg (.func 54) [.vsl false (l.map eRule), .fn (.func g) [] caps] H = some (.int .i64 (ixInt (ixGo p l 0)), H) := by
 refine lim_flat rfl rfl P_slices_IndexFunc_sRule_Rule (l.length + 1) (fun h => fz_2 rfl (fz_fn 999 (hcp h))) ?_ (fun _ => rfl) H
 have hl := f_IndexFunc_sRule_Rule_loop hp hm [] (l.length + 1) l.length 0 (l.length + 1) (by omega) (by omega)
 rw [Z5, z0] at hl
 rw [R_slices_IndexFunc_sRule_Rule]
 cases he : ixGo p l 0 <;> simp only [he] at hl <;> simp only [Zab,Zac,Zae,Zaf,Zag,Zai,Zaj,Zak,Zam,Zao,Zap,Zat,Zay,Zbi,Zbk,Zcg,Zcu,Zcv,Zcw,Zcx,Zdb,Zdc,Zdd,Q2,Q3,Q0,Q1,Z1,Zdt,Q4,Q5,Nat.reduceAdd,Nat.reduceSub,Int.reduceNeg,eq_self,true_and,Z2,Q4,Q5,Q8,Q9,Q6,Q7,Z2,hl,resAll,resVals,resVal,Z0,Prod.mk.injEq,true_and,exists_eq',ixInt]
theorem f_ContainsFunc_sRule_Rule_run {l : List RuleD} {g : Nat} {caps : List AV} {p : RuleD → Bool} (hp : ∀ x ∈ l, ∀ H, lim G0.cfg (.func g) ([.agg (eRule x)] ++ caps) H = some (.bool (p x), H)) (hm : l.length ≤ maxLen) (hcp : ∀ h, mapO (freeze h 999) caps = some (caps.map fun x => (x, true))) :
  ∃ h', runFn (lim G0.cfg) 1 A_slices_ContainsFunc_sRule_Rule [.vsl false (l.map eRule), .fn (.func g) [] caps] [] = some (.bool (l.any p), h') := by
 rw [R_slices_ContainsFunc_sRule_Rule]
 simp only [Zab,Zac,Zai,Zaj,Zak,Zay,Zaz,Zbi,Zbk,Zbq,Zcp,Zcq,Zcu,Zcv,Zcw,Zcx,Zcz,Zda,Q2,Q3,Q0,Q1,Z1,Zdk,Q4,Q5,Nat.reduceAdd,Nat.reduceSub,eq_self,true_and,Q4,Q5,Q8,Q9,Q6,Q7,f_IndexFunc_sRule_Rule hp hm hcp,ixGo_any,resAll,resVals,resVal,Z0,Prod.mk.injEq,true_and,exists_eq']
theorem f_ContainsFunc_sRule_Rule {l : List RuleD} {g : Nat} {caps caps' : List AV} {bs : List (AV × Bool)} {p : RuleD → Bool} {H : AHeap} (hf : mapO (freeze H 999) caps = some bs) (hbs : bs.map (·.1) = caps') (hp : ∀ x ∈ l, ∀ H, lim G0.cfg (.func g) ([.agg (eRule x)] ++ caps') H = some (.bool (p x), H)) (hm : l.length ≤ maxLen)
  (hcp : ∀ h, mapO (freeze h 999) caps' = some (caps'.map fun x => (x, true))) : lim G0.cfg (.func 84) [.vsl false (l.map eRule), .fn (.func g) [] caps] H = some (.bool (l.any p), H) := by
 obtain ⟨h', hr⟩ := f_ContainsFunc_sRule_Rule_run hp hm hcp
 subst hbs
 have h1 : mapO (freeze H 1000) [.vsl false (l.map eRule), .fn (.func g) [] caps] = some [(.vsl false (l.map eRule), true), (.fn (.func g) [] (bs.map (·.1)), bs.all (·.2))] := mapO_2 (fz_vsl _ _ _) (fz_fnc60 hf)
 exact lim_fz rfl rfl P_slices_ContainsFunc_sRule_Rule 1 h1 hr (rfl : freeze h' 1000 (.bool (l.any p)) = some (.bool (l.any p), true)) (Bool.or_true _)
end Go.Proofs.Ytkimloceaihplaa.Ai
namespace Go.Proofs.Ytkimloceaihplaa.Ai
open Go
set_option linter.unusedVariables false
set_option linter.unusedSimpArgs false
section
variable {K V : Type} [DecidableEq K] (q : Sc) (kf : K → AV) (vf : V → AV)
def KeyFit : Prop := (∀ a b, aeq1 q (kf a) (kf b) = some (decide (a = b))) ∧ ∀ a, keyOk q (kf a) = true
theorem keyFit_int : KeyFit .int (AV.int .i64) := ⟨fun a b => by simp only [aeq1,if_true,beq_dec], fun a => rfl⟩
theorem keyFit_str : KeyFit .str AV.str := ⟨fun a b => by simp only [aeq1,beq_dec], fun a => rfl⟩
def mE (L : List (K × V)) : List (AV × AV) := L.map fun p => (kf p.1, vf p.2)
def mFind (k : K) : List (K × V) → Nat → Option (Nat × V)
 | [], _ => none
 | p :: L, j => if k = p.1 then some (j, p.2) else mFind k L (j + 1)
def mGet (L : List (K × V)) (k : K) : Option V := (mFind k L 0).map (·.2)
def mPut : List (K × V) → K → V → List (K × V)
 | [], k, v => [(k, v)]
 | p :: L, k, v => if k = p.1 then (k, v) :: L else p :: mPut L k v
theorem afind_mE (hk : KeyFit q kf) (k : K) : ∀ (L : List (K × V)) (j : Nat), afind q (kf k) (mE kf vf L) j = some ((mFind k L j).map fun p => (p.1, vf p.2))
 | [], j => rfl
 | p :: L, j => by
  simp only [mE,List.map_cons,afind,hk.1,mFind]
  by_cases h : k = p.1
  ·simp [h]
  ·simp only [h,decide_false,if_false]
   exact afind_mE hk k L (j + 1)
theorem mFind_shift (k : K) : ∀ (L : List (K × V)) (j : Nat), mFind k L (j + 1) = (mFind k L j).map fun p => (p.1 + 1, p.2)
 | [], j => rfl
 | p :: L, j => by
  simp only [mFind]
  by_cases h : k = p.1
  ·simp [h]
  ·simp only [h,if_false]; exact mFind_shift k L (j + 1)
theorem updMap_mE (k : K) (v : V) : ∀ (L : List (K × V)), updMap (mE kf vf L) (kf k) (vf v) ((mFind k L 0).map fun p => (p.1, vf p.2)) = mE kf vf (mPut L k v)
 | [] => rfl
 | p :: L => by
  simp only [mFind,mPut]
  by_cases h : k = p.1
  ·simp [h, updMap, mE]
  ·simp only [h,if_false,mFind_shift k L 0]
   have := updMap_mE k v L
   cases hf : mFind k L 0 with
   | none => rw [hf] at this; simp only [Option.map_none,updMap] at this ⊢; simp only [mE,List.map_cons,List.cons_append] at this ⊢; rw [this]
   | some x => rw [hf] at this; simp only [Option.map_some,updMap] at this ⊢; simp only [mE,List.map_cons,List.set_cons_succ] at this ⊢; rw [this]
theorem mFind_put (k k' : K) (v : V) : ∀ (L : List (K × V)) (j j' : Nat), (mFind k' (mPut L k v) j).map (·.2) = if k' = k then some v else (mFind k' L j').map (·.2)
 | [], j, j' => by
  simp only [mPut,mFind]
  by_cases h : k' = k <;> simp [h]
 | p :: L, j, j' => by
  simp only [mPut]
  by_cases h : k = p.1
  ·simp only [h,if_true,mFind]
   by_cases h2 : k' = p.1
   ·simp [h2]
   ·simp only [h2,if_false]
    have : ∀ (L : List (K × V)) (j j' : Nat), (mFind k' L j).map (·.2) = (mFind k' L j').map (·.2) := by
     intro L
     induction L with
     | nil => intro j j'; rfl
     | cons q L ih =>
      intro j j'
      simp only [mFind]
      by_cases h3 : k' = q.1
      ·simp [h3]
      ·simp only [h3,if_false]; exact ih _ _
    exact this L _ _
  ·simp only [h,if_false,mFind]
   by_cases h2 : k' = p.1
   ·have h3 : ¬ k' = k := fun e => h (e ▸ h2)
    simp [h2]
    intro e; exact absurd e.symm (h2 ▸ fun e => h (h2 ▸ e))
   ·simp only [h2,if_false]
    exact mFind_put k k' v L (j + 1) (j' + 1)
theorem mGet_put (L : List (K × V)) (k k' : K) (v : V) : mGet (mPut L k v) k' = if k' = k then some v else mGet L k' := mFind_put k k' v L 0 0
theorem mPut_keys (k : K) (v : V) : ∀ (L : List (K × V)), (mPut L k v).map (·.1) = if k ∈ L.map (·.1) then L.map (·.1) else L.map (·.1) ++ [k]
 | [] => by simp [mPut]
 | p :: L => by
  simp only [mPut]
  by_cases h : k = p.1
  ·simp [h]
  ·simp only [h,if_false,List.map_cons,mPut_keys k v L,List.mem_cons,false_or]
   by_cases h2 : k ∈ L.map (·.1)
   ·simp [h2]
   ·simp only [h2,if_false,List.cons_append]
theorem alook_mE (hk : KeyFit q kf) {h : AHeap} {i : Nat} {L : List (K × V)} (hi : h[i]? = some (.map (mE kf vf L))) (z : AV) (k : K) : alook h q z false (.map i) (kf k) = some (((mGet L k).map vf).getD z) := by
 simp only [alook,getMap,hi,hk.2,if_true,afind_mE q kf vf hk,Option.map_some,mGet]
 cases mFind k L 0 <;> rfl
theorem amapUpd_mE (hk : KeyFit q kf) {h : AHeap} {i : Nat} {L : List (K × V)} (hi : h[i]? = some (.map (mE kf vf L))) (k : K) (v : V) : amapUpd h q (.map i) (kf k) (vf v) = some (h.set i (.map (mE kf vf (mPut L k v)))) := by
 simp only [amapUpd,hi,hk.2,if_true,afind_mE q kf vf hk,Option.map_some,updMap_mE]
end
theorem alen_mE {K V : Type} (kf : K → AV) (vf : V → AV) {h : AHeap} {i : Nat} {L : List (K × V)} (hi : h[i]? = some (.map (mE kf vf L))) : alen h .map (.map i) = some (.int .i64 L.length) := by
 simp [alen, getMap, hi, mE]
def dk {K : Type} [DecidableEq K] : List K → List K → List K
 | acc, [] => acc
 | acc, x :: l => dk (if x ∈ acc then acc else acc ++ [x]) l
theorem dk_len {K : Type} [DecidableEq K] : ∀ (l acc : List K), (dk acc l).length ≤ acc.length + l.length ∧ ((dk acc l).length = acc.length + l.length ↔ l.Nodup ∧ ∀ x ∈ l, x ∉ acc)
 | [], acc => by simp [dk]
 | x :: l, acc => by
  simp only [dk]
  by_cases h : x ∈ acc
  ·rw [if_pos h]
   obtain ⟨h1, h2⟩ := dk_len l acc
   refine ⟨by simp; omega, ?_⟩
   constructor
   ·intro e; simp at e; omega
   ·rintro ⟨_, e⟩; exact absurd h (e x (List.mem_cons_self ..))
  ·rw [if_neg h]
   obtain ⟨h1, h2⟩ := dk_len l (acc ++ [x])
   rw [List.length_append, List.length_singleton] at h1 h2
   refine ⟨by simp; omega, ?_⟩
   have e : (dk (acc ++ [x]) l).length = acc.length + (x :: l).length ↔ (dk (acc ++ [x]) l).length = acc.length + 1 + l.length := by simp; omega
   rw [e, h2, List.nodup_cons]
   constructor
   ·rintro ⟨a, b⟩
    refine ⟨⟨fun hx => (b x hx) (by simp), a⟩, fun y hy => ?_⟩
    rcases List.mem_cons.1 hy with rfl | hy
    ·exact h
    ·exact fun hm => b y hy (by simp [hm])
   ·rintro ⟨⟨a, b⟩, c⟩
    refine ⟨b, fun y hy hm => ?_⟩
    rcases List.mem_append.1 hm with hm | hm
    ·exact c y (List.mem_cons_of_mem _ hy) hm
    ·simp at hm; subst hm; exact a hy
theorem dk_lt {K : Type} [DecidableEq K] (l : List K) : decide ((dk [] l).length < l.length) = !decide l.Nodup := by
 obtain ⟨h1, h2⟩ := dk_len l []
 simp at h1 h2
 by_cases h : l.Nodup
 ·have := h2.2 h
  simp [h]; omega
 ·have : (dk [] l).length ≠ l.length := fun e => h (h2.1 e)
  simp [h]; omega
end Go.Proofs.Ytkimloceaihplaa.Ai
namespace Go.Proofs.Ytkimloceaihplaa.Ai
open Go Go.Proofs
open AV renaming junk → J
open List renaming set_cons_zero → Q0, length_cons → Q1, length_nil → Q2, cons_append → Q3, nil_append → Q4, getD_cons_zero → Q5, getD_cons_succ → Q6, set_cons_succ → Q7, getElem?_cons_zero → Q8, replicate_succ → Q9, replicate_zero → Z0, length_map → Z2, take_succ_cons → Z3, drop_succ_cons → Z5, drop_zero → Z7, take_zero → Z8, take_nil → Y4, getElem?_cons_succ → Y5, all_cons → Y6, all_nil → Y8
open Option.some renaming injEq → Z1
open Option renaming map_some → Z4, bind_some → Z6
open Bool renaming false_and → Z9, and_self → Y0, and_false → Y1, not_false → Y2, not_true → Y3, and_true → Y7
set_option linter.unusedVariables false
set_option linter.unusedSimpArgs false
set_option maxRecDepth 10000
theorem f_within (n lo hi : Int) (H : AHeap) : lim G0.cfg (.func 71) [.int .i64 n, .int .i64 lo, .int .i64 hi] H = some (.bool (decide (lo ≤ n) && decide (n ≤ hi)), H) := by
 refine lim_flat rfl rfl P_grammar_within 1 (fun h => rfl) ?_ (fun _ => rfl) H
 rw [R_grammar_within]
 by_cases h1 : lo ≤ n
 ·simp only [Zab,Zac,Zai,Zaj,Zak,Zay,Zbb,Zbg,Zbi,Zbj,Zbk,Zbl,Zbq,Zcu,Zcv,Zcw,Zcx,Q0,Q7,Q5,Q6,Z4,Zdi,Zdk,decide_true,Q1,Q2,Nat.reduceAdd,Nat.reduceSub,eq_self,true_and,Q1,Q2,Q9,Z0,Q3,Q4,h1,resAll,resVals,resVal,Z1,Prod.mk.injEq,true_and,Bool.true_and,exists_eq']
 ·simp only [Zab,Zac,Zai,Zaj,Zak,Zay,Zbe,Zbh,Zbi,Zbj,Zbk,Zbl,Zbq,Zcu,Zcv,Zcw,Zcx,Q0,Q7,Q5,Q6,Z4,Zdk,decide_false,Q1,Q2,Nat.reduceAdd,Nat.reduceSub,eq_self,true_and,Q1,Q2,Q9,Z0,Q3,Q4,h1,resAll,resVals,resVal,Z1,Prod.mk.injEq,true_and,Z9,exists_eq']
theorem f_there (g : GramD) (hg : g.Ok) (s : Int) (H : AHeap) : lim G0.cfg (.func 76) [.agg (eGram g), .int .i64 s] H = some (.bool (isSym g s), H) := by
 refine lim_flat rfl rfl P_grammar_there 1 (fun h => fz_2 (fz_gram g h) rfl) ?_ (fun _ => rfl) H
 have hw : IntKind.i64.wrap (-(g.nonterms.length : Int)) = -(g.nonterms.length : Int) := by have := hg.nonterms; rw [maxLen_eq] at this; exact w64 (by omega) (by omega)
 rw [R_grammar_there]
 unfold isSym
 by_cases h1 : s < (g.terms.length : Int)
 ·simp only [Zab,Zac,Zai,Zaj,Zak,Zay,Zaz,Zbb,Zbg,Zbi,Zbj,Zbk,Zbl,Zbn,Zbo,Zbq,Zbr,Zby,Zcg,Zcs,Zcu,Zcv,Zcw,Zcx,Q0,Q7,Q5,Q6,Z6,Z4,Zdh,Zdk,Zds,Zdt,Zdx,Zdz,Zeb,Zeq,decide_true,Q8,Q1,Q2,if_true,Nat.reduceAdd,Nat.reduceSub,Nat.reduceLeDiff,eq_self,true_and,Q1,Q2,Q9,Z0,Q3,Q4,aload,acells,getArr,part,Z7,Z5,Z3,Z8,Q3,Q4,Q0,h1,hw,resAll,resVals,resVal,Z1,Prod.mk.injEq,true_and,Bool.true_and,exists_eq']
 ·simp only [Zab,Zac,Zai,Zaj,Zak,Zay,Zaz,Zbe,Zbh,Zbi,Zbj,Zbk,Zbl,Zbn,Zbo,Zbq,Zby,Zcg,Zcs,Zcu,Zcv,Zcw,Zcx,Q0,Q7,Q5,Q6,Z6,Z4,Zdh,Zdt,Zdx,Zdz,Zeb,Zeq,decide_false,Q8,Q1,Q2,if_true,Nat.reduceAdd,Nat.reduceSub,Nat.reduceLeDiff,eq_self,true_and,Q1,Q2,Q9,Z0,Q3,Q4,aload,acells,getArr,part,Z7,Z3,Z8,Q3,Q4,Q0,h1,resAll,resVals,resVal,Z1,Prod.mk.injEq,true_and,Z9,exists_eq']
theorem f_counts_loop (g : GramD) (hg : g.Ok) (n : Nat) : ∀ (d i m : Nat) (w : Int) (h : AHeap), g.rules.length = i + d → d < m → h[0]? = some (.arr 0 5 true [eGram g]) → ∃ h', h'[0]? = some (.arr 0 5 true [eGram g]) ∧
  loopN (evalCode (lim G0.cfg) n B_grammar_counts_0) m ⟨(J::.ptr 0 0 0 0::J::.int .i64 w::J::J::J::.vsl false (g.rules.map eRule) :: .int .i64 g.rules.length :: .int .i64 i::J::J::J::J::J::J::J::J::J::J::J::J::J::J::J::J::J::J::J::J::J::J::J::J::J::J::J::J::J::J::J::J::J::J::J::J::J::J::J::J::J::J::J::J::J::J::J::J::J::J::[]), h⟩ =
   some (.exit 0, ⟨(J::.ptr 0 0 0 0::J::.int .i64 (wsum (g.rules.drop i) w)::J::J::J::J::J::J::J::J::J::J::J::J::J::J::J::J::J::J::J::J::J::J::J::J::J::J::J::J::J::J::J::J::J::J::J::J::J::J::J::J::J::J::J::J::J::J::J::J::J::J::J::J::J::J::J::J::[]), h'⟩) := by
 have hm := hg.rules
 rw [maxLen_eq] at hm
 intro d
 induction d with
 | zero =>
  intro i m w h h1 h2 hb
  obtain ⟨m, rfl⟩ : ∃ q, m = q + 1 := ⟨m - 1, by omega⟩
  have e1 : g.rules.drop i = [] := List.drop_eq_nil_iff.2 (by omega)
  have h3 : ¬ ((i : Int) < g.rules.length) := by omega
  exact ⟨h, hb, by simp only [loop_e,EB_grammar_counts_0,Zab,Zac,Zad,Zag,Zah,Zaj,Zak,Zal,Zas,Zav,Zay,Zbi,Zbq,Zcv,Zcx,Zdb,Zdc,Zdd,Q0,Q7,Q5,Q6,Zdh,decide_false,eq_self,h3,e1,wsum]⟩
 | succ d ih =>
  intro i m w h h1 h2 hb
  obtain ⟨m, rfl⟩ : ∃ q, m = q + 1 := ⟨m - 1, by omega⟩
  have h3 : i < g.rules.length := by omega
  have h3' : (i : Int) < g.rules.length := by omega
  have e1 : g.rules.drop i = g.rules[i] :: g.rules.drop (i + 1) := List.drop_eq_getElem_cons h3
  have hw := w64s (n := i) (by omega)
  obtain ⟨h', hb', e⟩ := ih (i + 1) m (IntKind.i64.wrap (w + (g.rules[i]).right.length)) (h ++ [.arr 0 5 true [eRule g.rules[i]]]) (by omega) (by omega) (get_app hb _)
  exact ⟨h', hb', by simp only [loop_e,EB_grammar_counts_0,Zaa,Zab,Zac,Zad,Zae,Zag,Zaj,Zak,Zan,Zar,Zau,Zay,Zba,Zbi,Zbk,Zbm,Zbo,Zbp,Zbq,Zby,Zcb,Zcg,Zcv,Zcw,Zcx,Zcy,Zdb,Zdc,Zdd,Q0,Q7,Q5,Q6,Z6,Zde,Zdh,Zdt,Zdx,Zdz,Zea,Zeb,Zep,decide_true,Q8,Q1,Q2,if_true,Nat.reduceAdd,Nat.reduceLeDiff,eq_self,and_self,aload,acells,getArr,part,astore,putCells,get_new,set_new,Y6,Y8,cellOk,Y0,Z7,Z5,Z3,Z8,Y4,Q3,Q4,Q0,h3',e1,ix_map eRule _ 5 _ g.rules _ i h3 rfl,hw,wsum,e]⟩
theorem f_counts_1 (o : Int) (H : AHeap) : lim G0.cfg (.func 83) [.int .i64 o] H = some (.bool (!(decide (0 ≤ o) && decide (o ≤ 5))), H) := by
 refine lim_flat rfl rfl P_grammar_counts_1 1 (fun h => rfl) ?_ (fun _ => rfl) H
 rw [R_grammar_counts_1]
 by_cases h1 : o < 0
 ·have h2 : ¬ (0 ≤ o) := by omega
  simp only [Zab,Zac,Zai,Zaj,Zak,Zay,Zbd,Zbg,Zbi,Zbj,Zbk,Zbl,Zbq,Zcu,Zcv,Zcw,Zcx,Q0,Q7,Q5,Q6,Z4,Zdh,decide_true,decide_false,Y2,Q1,Q2,Nat.reduceAdd,Nat.reduceSub,eq_self,true_and,Q1,Q2,Q9,Z0,Q3,Q4,h1,h2,resAll,resVals,resVal,Z1,Prod.mk.injEq,true_and,Z9,exists_eq']
 ·have h2 : 0 ≤ o := by omega
  by_cases h3 : 5 < o
  ·have h4 : ¬ (o ≤ 5) := by omega
   simp only [Zab,Zac,Zai,Zaj,Zak,Zay,Zbc,Zbh,Zbi,Zbj,Zbk,Zbl,Zbq,Zcu,Zcv,Zcw,Zcx,Q0,Q7,Q5,Q6,Z4,Zdh,Zdj,decide_true,decide_false,Y2,Q1,Q2,Nat.reduceAdd,Nat.reduceSub,eq_self,true_and,Q1,Q2,Q9,Z0,Q3,Q4,h1,h2,h3,h4,resAll,resVals,resVal,Z1,Prod.mk.injEq,true_and,Y1,exists_eq']
  ·have h4 : o ≤ 5 := by omega
   simp only [Zab,Zac,Zai,Zaj,Zak,Zay,Zbc,Zbh,Zbi,Zbj,Zbk,Zbl,Zbq,Zcu,Zcv,Zcw,Zcx,Q0,Q7,Q5,Q6,Z4,Zdh,Zdj,decide_true,decide_false,Y3,Q1,Q2,Nat.reduceAdd,Nat.reduceSub,eq_self,true_and,Q1,Q2,Q9,Z0,Q3,Q4,h1,h2,h3,h4,resAll,resVals,resVal,Z1,Prod.mk.injEq,true_and,Y7,exists_eq']
theorem f_counts_orig (g : GramD) (hg : g.Ok) (H : AHeap) : lim G0.cfg (.func 82) [.vsl false (eIs g.origins), .fn (.func 83) [] []] H = some (.bool (!g.origins.all (fun o => decide (0 ≤ o) && decide (o ≤ 5))), H) := by
 have := f_ContainsFunc_sOrigin_Origin (l := g.origins) (g := 83) (caps := []) (caps' := []) (bs := []) (H := H) (p := fun o => !(decide (0 ≤ o) && decide (o ≤ 5))) rfl rfl (fun x _ H => f_counts_1 x H) hg.origins (fun _ => rfl)
 rw [eIs, this, List.all_eq_not_any_not, Bool.not_not]
theorem f_counts (g : GramD) (hg : g.Ok) (H : AHeap) : lim G0.cfg (.func 67) [.agg (eGram g)] H = some (.bool (countsOk g), H) := by
 refine lim_flat rfl rfl P_grammar_counts (g.rules.length + 1) (fun h => fz_1 (fz_gram g h)) ?_ (fun _ => rfl) H
 obtain ⟨h', hb, e⟩ := f_counts_loop g hg (g.rules.length + 1) g.rules.length 0 (g.rules.length + 1) 0 [.arr 0 5 true [eGram g]] (by omega) (by omega) rfl
 rw [Z7, z0] at e
 rw [R_grammar_counts]
 have w1 := f_within
 have w2 := f_counts_orig g hg
 unfold countsOk
 generalize hall : (g.origins.all fun o => decide (0 ≤ o) && decide (o ≤ 5)) = ab at w2
 cases ab
 case false =>
  by_cases c1 : (2 : Int) ≤ g.terms.length
  case neg => simp only [Zab,Zac,Zae,Zaf,Zag,Zai,Zaj,Zak,Zap,Zat,Zay,Zaz,Zbe,Zbh,Zbi,Zbj,Zbk,Zbl,Zbn,Zbo,Zby,Zcg,Zcp,Zcq,Zcs,Zcu,Zcv,Zcw,Zcx,Zcz,Zda,Zdb,Zdc,Zdd,Q0,Q7,Q5,Q6,Z6,Z4,Zdt,Zdx,Zdz,Zeb,Zeq,decide_false,Q8,Q1,Q2,if_true,Nat.reduceAdd,Nat.reduceSub,Nat.reduceLeDiff,eq_self,true_and,Z2,Q1,Q2,Q9,Z0,Q3,Q4,aload,acells,getArr,part,Y0,Z7,Z5,Z3,Z8,Q3,Q4,Q0,Z2,e,hb,w1,c1,resAll,resVals,resVal,Z1,Prod.mk.injEq,true_and,Z9,exists_eq']
  case pos =>
   by_cases c2 : (g.terms.length : Int) ≤ 256
   case neg => simp only [Zab,Zac,Zae,Zaf,Zag,Zai,Zaj,Zak,Zap,Zat,Zay,Zaz,Zbe,Zbh,Zbi,Zbj,Zbk,Zbl,Zbn,Zbo,Zby,Zcg,Zcp,Zcq,Zcs,Zcu,Zcv,Zcw,Zcx,Zcz,Zda,Zdb,Zdc,Zdd,Q0,Q7,Q5,Q6,Z6,Z4,Zdt,Zdx,Zdz,Zeb,Zeq,decide_true,decide_false,Q8,Q1,Q2,if_true,Nat.reduceAdd,Nat.reduceSub,Nat.reduceLeDiff,eq_self,true_and,Z2,Q1,Q2,Q9,Z0,Q3,Q4,aload,acells,getArr,part,Y0,Z7,Z5,Z3,Z8,Q3,Q4,Q0,Z2,e,hb,w1,c1,c2,resAll,resVals,resVal,Z1,Prod.mk.injEq,true_and,Z9,Y1,exists_eq']
   case pos =>
    by_cases c3 : (1 : Int) ≤ g.nonterms.length
    case neg => simp only [Zab,Zac,Zae,Zaf,Zag,Zai,Zaj,Zak,Zap,Zat,Zay,Zaz,Zbb,Zbe,Zbg,Zbh,Zbi,Zbj,Zbk,Zbl,Zbn,Zbo,Zby,Zcg,Zcp,Zcq,Zcs,Zcu,Zcv,Zcw,Zcx,Zcz,Zda,Zdb,Zdc,Zdd,Q0,Q7,Q5,Q6,Z6,Z4,Zdt,Zdx,Zdz,Zeb,Zeq,decide_true,decide_false,Q8,Q1,Q2,if_true,Nat.reduceAdd,Nat.reduceSub,Nat.reduceLeDiff,eq_self,true_and,Z2,Q1,Q2,Q9,Z0,Q3,Q4,aload,acells,getArr,part,Y0,Z7,Z5,Z3,Z8,Q3,Q4,Q0,Z2,e,hb,w1,c1,c2,c3,resAll,resVals,resVal,Z1,Prod.mk.injEq,true_and,Z9,Y1,exists_eq']
    case pos =>
     by_cases c4 : (g.nonterms.length : Int) ≤ 512
     case neg => simp only [Zab,Zac,Zae,Zaf,Zag,Zai,Zaj,Zak,Zap,Zat,Zay,Zaz,Zbb,Zbe,Zbg,Zbh,Zbi,Zbj,Zbk,Zbl,Zbn,Zbo,Zby,Zcg,Zcp,Zcq,Zcs,Zcu,Zcv,Zcw,Zcx,Zcz,Zda,Zdb,Zdc,Zdd,Q0,Q7,Q5,Q6,Z6,Z4,Zdt,Zdx,Zdz,Zeb,Zeq,decide_true,decide_false,Q8,Q1,Q2,if_true,Nat.reduceAdd,Nat.reduceSub,Nat.reduceLeDiff,eq_self,true_and,Z2,Q1,Q2,Q9,Z0,Q3,Q4,aload,acells,getArr,part,Y0,Z7,Z5,Z3,Z8,Q3,Q4,Q0,Z2,e,hb,w1,c1,c2,c3,c4,resAll,resVals,resVal,Z1,Prod.mk.injEq,true_and,Z9,Y1,exists_eq']
     case pos =>
      by_cases c5 : (g.origins.length : Int) = g.nonterms.length
      case neg => simp only [Zab,Zac,Zae,Zaf,Zag,Zai,Zaj,Zak,Zap,Zat,Zay,Zaz,Zbb,Zbe,Zbg,Zbh,Zbi,Zbj,Zbk,Zbl,Zbn,Zbo,Zbq,Zby,Zcg,Zcp,Zcq,Zcs,Zcu,Zcv,Zcw,Zcx,Zcz,Zda,Zdb,Zdc,Zdd,Q0,Q7,Q5,Q6,Z6,Z4,Zdl,Zdt,Zdx,Zdz,Zeb,Zep,Zeq,decide_true,decide_false,Q8,Q1,Q2,if_true,Nat.reduceAdd,Nat.reduceSub,Nat.reduceLeDiff,eq_self,true_and,Z2,Q1,Q2,Q9,Z0,Q3,Q4,aload,acells,getArr,part,Y0,Z7,Z5,Z3,Z8,Q3,Q4,Q0,Z2,e,hb,w1,c1,c2,c3,c4,c5,resAll,resVals,resVal,Z1,Prod.mk.injEq,true_and,Z9,Y1,exists_eq']
      case pos =>
       simp only [Zab,Zac,Zae,Zaf,Zag,Zai,Zaj,Zak,Zap,Zat,Zay,Zaz,Zbb,Zbe,Zbg,Zbh,Zbi,Zbj,Zbk,Zbl,Zbn,Zbo,Zbq,Zbr,Zby,Zcg,Zcp,Zcq,Zcs,Zcu,Zcv,Zcw,Zcx,Zcz,Zda,Zdb,Zdc,Zdd,Q0,Q7,Q5,Q6,Z6,Z4,Zdl,Zdr,Zdt,Zdx,Zdz,Zeb,Zep,Zeq,decide_true,Y3,Y2,Q8,Q1,Q2,if_true,Nat.reduceAdd,Nat.reduceSub,Nat.reduceLeDiff,eq_self,true_and,Z2,Q1,Q2,Q9,Z0,Q3,Q4,aload,acells,getArr,part,Y0,Z7,Z5,Z3,Z8,Q3,Q4,Q0,Z2,e,hb,w1,w2,c1,c2,c3,c4,c5,resAll,resVals,resVal,Z1,Prod.mk.injEq,true_and,Z9,Y1,exists_eq']
 case true =>
  by_cases c1 : (2 : Int) ≤ g.terms.length
  case neg => simp only [Zab,Zac,Zae,Zaf,Zag,Zai,Zaj,Zak,Zap,Zat,Zay,Zaz,Zbe,Zbh,Zbi,Zbj,Zbk,Zbl,Zbn,Zbo,Zby,Zcg,Zcp,Zcq,Zcs,Zcu,Zcv,Zcw,Zcx,Zcz,Zda,Zdb,Zdc,Zdd,Q0,Q7,Q5,Q6,Z6,Z4,Zdt,Zdx,Zdz,Zeb,Zeq,decide_false,Q8,Q1,Q2,if_true,Nat.reduceAdd,Nat.reduceSub,Nat.reduceLeDiff,eq_self,true_and,Z2,Q1,Q2,Q9,Z0,Q3,Q4,aload,acells,getArr,part,Z7,Z5,Z3,Z8,Q3,Q4,Q0,Z2,e,hb,w1,c1,resAll,resVals,resVal,Z1,Prod.mk.injEq,true_and,Z9,Y7,exists_eq']
  case pos =>
   by_cases c2 : (g.terms.length : Int) ≤ 256
   case neg => simp only [Zab,Zac,Zae,Zaf,Zag,Zai,Zaj,Zak,Zap,Zat,Zay,Zaz,Zbe,Zbh,Zbi,Zbj,Zbk,Zbl,Zbn,Zbo,Zby,Zcg,Zcp,Zcq,Zcs,Zcu,Zcv,Zcw,Zcx,Zcz,Zda,Zdb,Zdc,Zdd,Q0,Q7,Q5,Q6,Z6,Z4,Zdt,Zdx,Zdz,Zeb,Zeq,decide_true,decide_false,Q8,Q1,Q2,if_true,Nat.reduceAdd,Nat.reduceSub,Nat.reduceLeDiff,eq_self,true_and,Z2,Q1,Q2,Q9,Z0,Q3,Q4,aload,acells,getArr,part,Z7,Z5,Z3,Z8,Q3,Q4,Q0,Z2,e,hb,w1,c1,c2,resAll,resVals,resVal,Z1,Prod.mk.injEq,true_and,Z9,Y7,Y1,exists_eq']
   case pos =>
    by_cases c3 : (1 : Int) ≤ g.nonterms.length
    case neg => simp only [Zab,Zac,Zae,Zaf,Zag,Zai,Zaj,Zak,Zap,Zat,Zay,Zaz,Zbb,Zbe,Zbg,Zbh,Zbi,Zbj,Zbk,Zbl,Zbn,Zbo,Zby,Zcg,Zcp,Zcq,Zcs,Zcu,Zcv,Zcw,Zcx,Zcz,Zda,Zdb,Zdc,Zdd,Q0,Q7,Q5,Q6,Z6,Z4,Zdt,Zdx,Zdz,Zeb,Zeq,decide_true,decide_false,Q8,Q1,Q2,if_true,Nat.reduceAdd,Nat.reduceSub,Nat.reduceLeDiff,eq_self,true_and,Z2,Q1,Q2,Q9,Z0,Q3,Q4,aload,acells,getArr,part,Y0,Z7,Z5,Z3,Z8,Q3,Q4,Q0,Z2,e,hb,w1,c1,c2,c3,resAll,resVals,resVal,Z1,Prod.mk.injEq,true_and,Z9,Y7,Y1,exists_eq']
    case pos =>
     by_cases c4 : (g.nonterms.length : Int) ≤ 512
     case neg => simp only [Zab,Zac,Zae,Zaf,Zag,Zai,Zaj,Zak,Zap,Zat,Zay,Zaz,Zbb,Zbe,Zbg,Zbh,Zbi,Zbj,Zbk,Zbl,Zbn,Zbo,Zby,Zcg,Zcp,Zcq,Zcs,Zcu,Zcv,Zcw,Zcx,Zcz,Zda,Zdb,Zdc,Zdd,Q0,Q7,Q5,Q6,Z6,Z4,Zdt,Zdx,Zdz,Zeb,Zeq,decide_true,decide_false,Q8,Q1,Q2,if_true,Nat.reduceAdd,Nat.reduceSub,Nat.reduceLeDiff,eq_self,true_and,Z2,Q1,Q2,Q9,Z0,Q3,Q4,aload,acells,getArr,part,Y0,Z7,Z5,Z3,Z8,Q3,Q4,Q0,Z2,e,hb,w1,c1,c2,c3,c4,resAll,resVals,resVal,Z1,Prod.mk.injEq,true_and,Z9,Y7,Y1,exists_eq']
     case pos =>
      by_cases c5 : (g.origins.length : Int) = g.nonterms.length
      case neg => simp only [Zab,Zac,Zae,Zaf,Zag,Zai,Zaj,Zak,Zap,Zat,Zay,Zaz,Zbb,Zbe,Zbg,Zbh,Zbi,Zbj,Zbk,Zbl,Zbn,Zbo,Zbq,Zby,Zcg,Zcp,Zcq,Zcs,Zcu,Zcv,Zcw,Zcx,Zcz,Zda,Zdb,Zdc,Zdd,Q0,Q7,Q5,Q6,Z6,Z4,Zdl,Zdt,Zdx,Zdz,Zeb,Zep,Zeq,decide_true,decide_false,Q8,Q1,Q2,if_true,Nat.reduceAdd,Nat.reduceSub,Nat.reduceLeDiff,eq_self,true_and,Z2,Q1,Q2,Q9,Z0,Q3,Q4,aload,acells,getArr,part,Y0,Z7,Z5,Z3,Z8,Q3,Q4,Q0,Z2,e,hb,w1,c1,c2,c3,c4,c5,resAll,resVals,resVal,Z1,Prod.mk.injEq,true_and,Z9,Y7,Y1,exists_eq']
      case pos =>
       by_cases c7 : (1 : Int) ≤ g.rules.length
       case neg => simp only [Zab,Zac,Zae,Zaf,Zag,Zai,Zaj,Zak,Zap,Zat,Zay,Zaz,Zbb,Zbe,Zbg,Zbh,Zbi,Zbj,Zbk,Zbl,Zbn,Zbo,Zbq,Zbr,Zby,Zcg,Zcp,Zcq,Zcs,Zcu,Zcv,Zcw,Zcx,Zcz,Zda,Zdb,Zdc,Zdd,Q0,Q7,Q5,Q6,Z6,Z4,Zdl,Zdr,Zdt,Zdx,Zdz,Zeb,Zep,Zeq,decide_true,decide_false,Y3,Y2,Q8,Q1,Q2,if_true,Nat.reduceAdd,Nat.reduceSub,Nat.reduceLeDiff,eq_self,true_and,Z2,Q1,Q2,Q9,Z0,Q3,Q4,aload,acells,getArr,part,Y0,Z7,Z5,Z3,Z8,Q3,Q4,Q0,Z2,e,hb,w1,w2,c1,c2,c3,c4,c5,c7,resAll,resVals,resVal,Z1,Prod.mk.injEq,true_and,Z9,Y1,exists_eq']
       case pos =>
        by_cases c8 : (g.rules.length : Int) ≤ 1024
        case neg => simp only [Zab,Zac,Zae,Zaf,Zag,Zai,Zaj,Zak,Zap,Zat,Zay,Zaz,Zbb,Zbe,Zbg,Zbh,Zbi,Zbj,Zbk,Zbl,Zbn,Zbo,Zbq,Zbr,Zby,Zcg,Zcp,Zcq,Zcs,Zcu,Zcv,Zcw,Zcx,Zcz,Zda,Zdb,Zdc,Zdd,Q0,Q7,Q5,Q6,Z6,Z4,Zdl,Zdr,Zdt,Zdx,Zdz,Zeb,Zep,Zeq,decide_true,decide_false,Y3,Y2,Q8,Q1,Q2,if_true,Nat.reduceAdd,Nat.reduceSub,Nat.reduceLeDiff,eq_self,true_and,Z2,Q1,Q2,Q9,Z0,Q3,Q4,aload,acells,getArr,part,Y0,Z7,Z5,Z3,Z8,Q3,Q4,Q0,Z2,e,hb,w1,w2,c1,c2,c3,c4,c5,c7,c8,resAll,resVals,resVal,Z1,Prod.mk.injEq,true_and,Z9,Y1,exists_eq']
        case pos =>
         by_cases c9 : (g.levels.length : Int) ≤ 32
         case neg => simp only [Zab,Zac,Zae,Zaf,Zag,Zai,Zaj,Zak,Zap,Zat,Zay,Zaz,Zbb,Zbe,Zbg,Zbh,Zbi,Zbj,Zbk,Zbl,Zbn,Zbo,Zbq,Zbr,Zby,Zcg,Zcp,Zcq,Zcs,Zcu,Zcv,Zcw,Zcx,Zcz,Zda,Zdb,Zdc,Zdd,Q0,Q7,Q5,Q6,Z6,Z4,Zdi,Zdl,Zdr,Zdt,Zdx,Zdz,Zeb,Zep,Zeq,decide_true,decide_false,Y3,Y2,Q8,Q1,Q2,if_true,Nat.reduceAdd,Nat.reduceSub,Nat.reduceLeDiff,eq_self,true_and,Z2,Q1,Q2,Q9,Z0,Q3,Q4,aload,acells,getArr,part,Y0,Z7,Z5,Z3,Z8,Y4,Q3,Q4,Q0,Z2,e,hb,w1,w2,c1,c2,c3,c4,c5,c7,c8,c9,resAll,resVals,resVal,Z1,Prod.mk.injEq,true_and,Z9,Y1,exists_eq']
         case pos =>
          by_cases c10 : wsum g.rules 0 ≤ 8192
          case neg => simp only [Zab,Zac,Zae,Zaf,Zag,Zai,Zaj,Zak,Zap,Zat,Zay,Zaz,Zbb,Zbg,Zbi,Zbj,Zbk,Zbl,Zbn,Zbo,Zbq,Zbr,Zby,Zcg,Zcp,Zcq,Zcs,Zcu,Zcv,Zcw,Zcx,Zcz,Zda,Zdb,Zdc,Zdd,Q0,Q7,Q5,Q6,Z6,Z4,Zdi,Zdl,Zdr,Zdt,Zdx,Zdz,Zeb,Zep,Zeq,decide_true,decide_false,Y3,Y2,Q8,Q1,Q2,if_true,Nat.reduceAdd,Nat.reduceSub,Nat.reduceLeDiff,eq_self,true_and,Z2,Q1,Q2,Q9,Z0,Q3,Q4,aload,acells,getArr,part,Y0,Z7,Z5,Z3,Z8,Y4,Q3,Q4,Q0,Z2,e,hb,w1,w2,c1,c2,c3,c4,c5,c7,c8,c9,c10,resAll,resVals,resVal,Z1,Prod.mk.injEq,true_and,Y1,exists_eq']
          case pos =>
           simp only [Zab,Zac,Zae,Zaf,Zag,Zai,Zaj,Zak,Zap,Zat,Zay,Zaz,Zbb,Zbg,Zbi,Zbj,Zbk,Zbl,Zbn,Zbo,Zbq,Zbr,Zby,Zcg,Zcp,Zcq,Zcs,Zcu,Zcv,Zcw,Zcx,Zcz,Zda,Zdb,Zdc,Zdd,Q0,Q7,Q5,Q6,Z6,Z4,Zdi,Zdl,Zdr,Zdt,Zdx,Zdz,Zeb,Zep,Zeq,decide_true,Y3,Y2,Q8,Q1,Q2,if_true,Nat.reduceAdd,Nat.reduceSub,Nat.reduceLeDiff,eq_self,true_and,Z2,Q1,Q2,Q9,Z0,Q3,Q4,aload,acells,getArr,part,Y0,Z7,Z5,Z3,Z8,Y4,Q3,Q4,Q0,Z2,e,hb,w1,w2,c1,c2,c3,c4,c5,c7,c8,c9,c10,resAll,resVals,resVal,Z1,Prod.mk.injEq,true_and,exists_eq']
theorem getD_int (o : Option Int) (z : Int) : (o.map (AV.int .i64)).getD (.int .i64 z) = .int .i64 (o.getD z) := by cases o <;> rfl
theorem f_twice_loop (l : List Str) (hm : l.length ≤ maxLen) (n : Nat) : ∀ (d i m : Nat) (L : List (Str × Int)), l.length = i + d → d < m → ∃ L' : List (Str × Int), L'.map (·.1) = dk (L.map (·.1)) (l.drop i) ∧
  loopN (evalCode (lim G0.cfg) n B_grammar_twice_0) m ⟨[.vsl false (eSs l), J,J, .map 0, J,J,J, .vsl false (eSs l), .int .i64 l.length, .int .i64 i, J,J,J,J,J,J,J,J,J,J,J,J,J], [.map (mE AV.str (AV.int .i64) L)]⟩ =
   some (.exit 0, ⟨[.vsl false (eSs l), J,J, .map 0, J,J,J,J,J,J,J,J,J,J,J,J,J,J,J,J,J,J,J], [.map (mE AV.str (AV.int .i64) L')]⟩) := by
 rw [maxLen_eq] at hm
 intro d
 induction d with
 | zero =>
  intro i m L h1 h2
  obtain ⟨m, rfl⟩ : ∃ q, m = q + 1 := ⟨m - 1, by omega⟩
  have e1 : l.drop i = [] := List.drop_eq_nil_iff.2 (by omega)
  have h3 : ¬ ((i : Int) < l.length) := by omega
  exact ⟨L, by rw [e1]; rfl, by simp only [loop_e,EB_grammar_twice_0,Zab,Zac,Zad,Zag,Zah,Zaj,Zak,Zal,Zas,Zav,Zay,Zbi,Zbq,Zcv,Zcx,Zdb,Zdc,Zdd,Q0,Q7,Q5,Q6,Zdh,decide_false,eq_self,h3]⟩
 | succ d ih =>
  intro i m L h1 h2
  obtain ⟨m, rfl⟩ : ∃ q, m = q + 1 := ⟨m - 1, by omega⟩
  have h3 : i < l.length := by omega
  have h3' : (i : Int) < l.length := by omega
  have e1 : l.drop i = l[i] :: l.drop (i + 1) := List.drop_eq_getElem_cons h3
  have hw := w64s (n := i) (by omega)
  have a1 : alook [.map (mE AV.str (AV.int .i64) L)] .str (.int .i64 0) false (.map 0) (.str l[i]) = some (.int .i64 ((mGet L l[i]).getD 0)) := by
   rw [alook_mE .str AV.str (AV.int .i64) keyFit_str rfl, getD_int]
  have a2 := amapUpd_mE .str AV.str (AV.int .i64) keyFit_str (h := [.map (mE AV.str (AV.int .i64) L)]) (i := 0) rfl l[i] (IntKind.i64.wrap ((mGet L l[i]).getD 0 + 1))
  obtain ⟨L', hL, e⟩ := ih (i + 1) m (mPut L l[i] (IntKind.i64.wrap ((mGet L l[i]).getD 0 + 1))) (by omega) (by omega)
  refine ⟨L', ?_, by simp only [loop_e,EB_grammar_twice_0,Zaa,Zab,Zac,Zad,Zae,Zag,Zaj,Zak,Zan,Zar,Zau,Zay,Zba,Zbi,Zbk,Zbo,Zbq,Zcb,Zcd,Zce,Zcv,Zcw,Zcx,Zcy,Zdb,Zdc,Zdd,Q0,Q7,Q5,Q6,Zde,Zdh,Zeo,decide_true,eq_self,h3',ix_eSs _ _ l _ i h3,a1,a2,hw,e]⟩
  rw [hL, e1, mPut_keys, dk]
theorem f_twice (l : List Str) (hm : l.length ≤ maxLen) (H : AHeap) : lim G0.cfg (.func 68) [.vsl false (eSs l)] H = some (.bool (twiceB l), H) := by
 refine lim_flat rfl rfl P_grammar_twice (l.length + 1) (fun h => fz_1 (fz_vsl _ _ _)) ?_ (fun _ => rfl) H
 obtain ⟨L', hL, e⟩ := f_twice_loop l hm (l.length + 1) l.length 0 (l.length + 1) [] (by omega) (by omega)
 have hlen : L'.length = (dk [] l).length := by
  have := congrArg List.length hL
  simpa using this
 have e0 : mE AV.str (AV.int .i64) ([] : List (Str × Int)) = [] := rfl
 rw [z0, e0] at e
 have a1 := alen_mE AV.str (AV.int .i64) (h := [.map (mE AV.str (AV.int .i64) L')]) (i := 0) (L := L') rfl
 have a2 : decide ((L'.length : Int) < l.length) = twiceB l := by
  rw [hlen, twiceB, ← dk_lt]
  congr 1
  simp
 rw [R_grammar_twice]
 simp only [Zab,Zac,Zae,Zaf,Zag,Zai,Zaj,Zak,Zap,Zat,Zay,Zbi,Zbk,Zbq,Zbu,Zcg,Zcu,Zcv,Zcw,Zcx,Zdb,Zdc,Zdd,Q0,Q7,Q5,Q6,Z4,Zdh,Zdt,Zeq,Q1,Q2,Nat.reduceAdd,Nat.reduceSub,eq_self,true_and,Q1,Q2,Q9,Z0,Q3,Q4,e,a1,a2,resAll,resVals,resVal,Z1,Prod.mk.injEq,true_and,exists_eq']
theorem f_start_1 (r : RuleD) (H : AHeap) : lim G0.cfg (.func 85) [.agg (eRule r)] H = some (.bool (decide (r.left = 0)), H) := by
 refine lim_flat rfl rfl P_grammar_start_1 1 (fun h => fz_1 (fz_rule r h)) ?_ (fun _ => rfl) H
 rw [R_grammar_start_1]
 simp only [Zab,Zac,Zai,Zaj,Zak,Zay,Zaz,Zbi,Zbk,Zbn,Zbo,Zbq,Zby,Zcs,Zcu,Zcv,Zcw,Zcx,Q0,Q7,Q5,Q6,Z6,Z4,Zdl,Zdx,Zdz,Zeb,Q8,Q1,Q2,if_true,Nat.reduceAdd,Nat.reduceSub,Nat.reduceLeDiff,eq_self,true_and,Q1,Q2,Q9,Z0,Q3,Q4,aload,acells,getArr,part,Z7,Z3,Z8,Q3,Q4,Q0,resAll,resVals,resVal,Z1,Prod.mk.injEq,true_and,exists_eq']
theorem f_start (g : GramD) (hg : g.Ok) (hr : g.rules ≠ []) (H : AHeap) : lim G0.cfg (.func 69) [.agg (eGram g)] H = some (.bool (startOk g), H) := by
 refine lim_flat rfl rfl P_grammar_start 1 (fun h => fz_1 (fz_gram g h)) ?_ (fun _ => rfl) H
 have t1 := f_there g hg
 obtain ⟨r0, R, hR⟩ : ∃ a b, g.rules = a :: b := by cases e : g.rules with | nil => exact absurd e hr | cons a b => exact ⟨a, b, rfl⟩
 have hlR : R.length ≤ maxLen := by have := hg.rules; rw [hR] at this; simp at this; omega
 have c1 : ∀ H, lim G0.cfg (.func 84) [.vsl false (R.map eRule), .fn (.func 85) [] []] H = some (.bool (R.any fun x => decide (x.left = 0)), H) := fun H =>
  f_ContainsFunc_sRule_Rule (l := R) (g := 85) (caps := []) (caps' := []) (bs := []) (H := H) (p := fun x => decide (x.left = 0)) rfl rfl (fun x _ H => f_start_1 x H) hlR (fun _ => rfl)
 have i0 : ∀ h, aindexAddr h 5 (.vsl false (g.rules.map eRule)) (.int .i64 0) = some (.vptr (eRule r0) 0) := fun h => by rw [hR]; rfl
 have s1 : ∀ h, aslice h 5 (.vsl false (g.rules.map eRule)) (some (.int .i64 1)) none none = some (.vsl false (R.map eRule)) := fun h => by rw [hR]; exact sl_lo h 5 false (eRule r0 :: R.map eRule) .i64 1 (by simp) (headSz_map eRule 5 (fun _ => rfl) R)
 have hall : (R.all fun x => decide (x.left ≠ 0)) = !(R.any fun x => decide (x.left = 0)) := by
  rw [List.all_eq_not_any_not]; congr 2; funext x; simp
 rw [R_grammar_start]
 simp only [startOk,hR]
 rw [hall]
 generalize (R.any fun x => decide (x.left = 0)) = anyb at c1
 by_cases q1 : r0.left = 0
 case neg => simp only [Zab,Zac,Zad,Zai,Zaj,Zak,Zam,Zar,Zay,Zaz,Zba,Zbd,Zbg,Zbi,Zbj,Zbk,Zbl,Zbm,Zbn,Zbo,Zbp,Zbq,Zby,Zcb,Zcs,Zcu,Zcv,Zcw,Zcx,Zcy,Q0,Q7,Q5,Q6,Z6,Z4,Zdm,Zdx,Zdz,Zea,Zeb,decide_false,Y2,Q8,Y5,Q1,Q2,if_true,Nat.reduceAdd,Nat.reduceSub,Nat.reduceLeDiff,Int.reduceNeg,eq_self,and_self,true_and,Q1,Q2,Q9,Z0,Q3,Q4,aload,acells,getArr,part,astore,putCells,Y6,Y8,cellOk,Y0,Z7,Z5,Z3,Z8,Y4,Q3,Q4,Q0,i0,q1,resAll,resVals,resVal,Z1,Prod.mk.injEq,true_and,Z9,exists_eq']
 case pos =>
  by_cases q2 : (r0.right.length : Int) = 1
  case neg =>
   simp only [Zab,Zac,Zad,Zai,Zaj,Zak,Zam,Zar,Zay,Zaz,Zba,Zbc,Zbd,Zbg,Zbh,Zbi,Zbj,Zbk,Zbl,Zbm,Zbn,Zbo,Zbp,Zbq,Zby,Zcb,Zcg,Zcs,Zcu,Zcv,Zcw,Zcx,Zcy,Q0,Q7,Q5,Q6,Z6,Z4,Zdm,Zdt,Zdx,Zdz,Zea,Zeb,Zep,decide_true,decide_false,Y3,Y2,Q8,Y5,Q1,Q2,if_true,Nat.reduceAdd,Nat.reduceSub,Nat.reduceLeDiff,Int.reduceNeg,eq_self,and_self,true_and,Q1,Q2,Q9,Z0,Q3,Q4,aload,acells,getArr,part,astore,putCells,Y6,Y8,cellOk,Y0,Z7,Z5,Z3,Z8,Y4,Q3,Q4,Q0,i0,q1,q2,resAll,resVals,resVal,Z1,Prod.mk.injEq,true_and,Z9,Y1,exists_eq']
  case pos =>
   have q2' : r0.right.length = 1 := by omega
   obtain ⟨y, hy⟩ : ∃ y, r0.right = [y] := List.length_eq_one_iff.1 q2'
   have i1 : ∀ h, aindexAddr h 1 (.vsl false (eIs r0.right)) (.int .i64 0) = some (.vptr (eI y) 0) := fun h => by rw [hy]; rfl
   have hy0 : r0.right.getD 0 0 = y := by rw [hy]; rfl
   rw [hy0]
   by_cases q3 : (-1 : Int) ≤ y
   case pos =>
    have q3' : ¬ (y < -1) := by omega
    simp only [Zab,Zac,Zad,Zai,Zaj,Zak,Zam,Zar,Zay,Zaz,Zba,Zbc,Zbd,Zbg,Zbh,Zbi,Zbj,Zbk,Zbl,Zbm,Zbn,Zbo,Zbp,Zbq,Zby,Zcb,Zcg,Zcs,Zcu,Zcv,Zcw,Zcx,Zcy,Q0,Q7,Q5,Q6,Z6,Z4,Zdk,Zdm,Zdt,Zdx,Zdz,Zea,Zeb,Zep,decide_true,decide_false,Y3,Q8,Y5,Q1,Q2,if_true,Nat.reduceAdd,Nat.reduceSub,Nat.reduceLeDiff,Int.reduceNeg,eq_self,and_self,true_and,Q1,Q2,Q9,Z0,Q3,Q4,aload,acells,getArr,part,eI,astore,putCells,Y6,Y8,cellOk,Y0,Z7,Z5,Z3,Z8,Y4,Q3,Q4,Q0,i0,i1,q1,q2,q3,q3',resAll,resVals,resVal,Z1,Prod.mk.injEq,true_and,Z9,Y1,exists_eq']
   case neg =>
    have q3' : y < -1 := by omega
    cases hs : isSym g y
    ·simp only [Zab,Zac,Zad,Zai,Zaj,Zak,Zam,Zar,Zay,Zaz,Zba,Zbc,Zbh,Zbi,Zbj,Zbk,Zbl,Zbm,Zbn,Zbo,Zbp,Zbq,Zbr,Zby,Zcb,Zcg,Zcp,Zcq,Zcs,Zcu,Zcv,Zcw,Zcx,Zcy,Zcz,Zda,Q0,Q7,Q5,Q6,Z6,Z4,Zdk,Zdm,Zdr,Zdt,Zdx,Zdz,Zea,Zeb,Zep,decide_true,decide_false,Y3,Y2,Q8,Y5,Q1,Q2,if_true,Nat.reduceAdd,Nat.reduceSub,Nat.reduceLeDiff,Int.reduceNeg,eq_self,and_self,true_and,Q1,Q2,Q9,Z0,Q3,Q4,aload,acells,getArr,part,eI,astore,putCells,Y6,Y8,cellOk,Y0,Z7,Z5,Z3,Z8,Y4,Q3,Q4,Q0,i0,i1,q1,q2,q3,q3',t1,hs,resAll,resVals,resVal,Z1,Prod.mk.injEq,true_and,Z9,Y1,exists_eq']
    ·simp only [Zaa,Zab,Zac,Zad,Zai,Zaj,Zak,Zas,Zay,Zaz,Zba,Zbc,Zbh,Zbi,Zbj,Zbk,Zbl,Zbm,Zbn,Zbo,Zbp,Zbq,Zbr,Zbw,Zby,Zcb,Zcg,Zcp,Zcq,Zcs,Zcu,Zcv,Zcw,Zcx,Zcy,Zcz,Zda,Q0,Q7,Q5,Q6,Z6,Z4,Zdk,Zdm,Zdr,Zdt,Zdx,Zdz,Zea,Zeb,Zep,decide_true,decide_false,Y3,Q8,Y5,Q1,Q2,if_true,Nat.reduceAdd,Nat.reduceSub,Nat.reduceLeDiff,Int.reduceNeg,eq_self,and_self,true_and,Q1,Q2,Q9,Z0,Q3,Q4,aload,acells,getArr,part,eI,astore,putCells,Y6,Y8,cellOk,Y0,Z7,Z5,Z3,Z8,Y4,Q3,Q4,Q0,i0,i1,q1,q2,q3,q3',t1,hs,s1,c1,Option.map_none,resAll,resVals,resVal,Z1,Prod.mk.injEq,true_and,Bool.true_and,exists_eq']
end Go.Proofs.Ytkimloceaihplaa.Ai
namespace Go.Proofs.Ytkimloceaihplaa.Ai
open Go Go.Proofs
open AV renaming junk → J
open List renaming set_cons_zero → Q0, length_cons → Q1, cons_append → Q2, length_nil → Q3, nil_append → Q4, getD_cons_zero → Q5, getD_cons_succ → Q6, set_cons_succ → Q7, getElem?_cons_zero → Q8, take_succ_cons → Q9, drop_zero → Z1, replicate_succ → Z2, replicate_zero → Z3, getElem?_cons_succ → Z4, drop_succ_cons → Z5, take_zero → Z7, take_nil → Z9, length_map → Y3
open Option renaming bind_some → Z0, map_some → Z8
open Option.some renaming injEq → Z6
open Bool renaming not_true → Y0, and_self → Y1, not_false → Y2, false_and → Y4, and_false → Y5
set_option linter.unusedVariables false
set_option linter.unusedSimpArgs false
set_option maxRecDepth 10000
theorem f_rule_1 (g : GramD) (hg : g.Ok) (s : Int) (H : AHeap) : lim G0.cfg (.func 86) [.int .i64 s, .vptr (eGram g) 0] H = some (.bool (badSym g s), H) := by
 refine lim_flat rfl rfl P_grammar_rule_1 1 (fun h => fz_2 rfl rfl) ?_ (fun _ => rfl) H
 have t1 := f_there g hg s
 rw [R_grammar_rule_1]
 unfold badSym
 cases hs : isSym g s
 ·simp only [Zab,Zac,Zai,Zaj,Zak,Zay,Zaz,Zbd,Zbf,Zbg,Zbi,Zbj,Zbk,Zbl,Zbo,Zbr,Zcp,Zcq,Zcu,Zcv,Zcw,Zcx,Zcz,Zda,Q0,Q7,Q5,Q6,Z0,Z8,Zdr,Zea,Y2,Q1,Q3,if_true,Nat.reduceAdd,Nat.reduceSub,Nat.reduceLeDiff,Int.reduceNeg,eq_self,true_and,Q1,Q3,Z2,Z3,Q2,Q4,aload,acells,part,Z1,Q9,Z9,Q2,Q4,Q0,t1,hs,resAll,resVals,resVal,Z6,Prod.mk.injEq,true_and,Bool.true_or,exists_eq']
 ·by_cases q1 : -1 ≤ s
  ·simp only [Zab,Zac,Zai,Zaj,Zak,Zay,Zaz,Zbb,Zbc,Zbg,Zbh,Zbi,Zbj,Zbk,Zbl,Zbo,Zbq,Zbr,Zcp,Zcq,Zcu,Zcv,Zcw,Zcx,Zcz,Zda,Q0,Q7,Q5,Q6,Z0,Z8,Zdi,Zdk,Zdr,Zea,decide_true,Y0,Q1,Q3,if_true,Nat.reduceAdd,Nat.reduceSub,Nat.reduceLeDiff,Int.reduceNeg,eq_self,true_and,Q1,Q3,Z2,Z3,Q2,Q4,aload,acells,part,Z1,Q9,Z9,Q2,Q4,Q0,t1,hs,q1,resAll,resVals,resVal,Z6,Prod.mk.injEq,true_and,Bool.true_and,Bool.false_or,exists_eq']
  ·simp only [Zab,Zac,Zai,Zaj,Zak,Zay,Zaz,Zbc,Zbe,Zbh,Zbi,Zbj,Zbk,Zbl,Zbo,Zbq,Zbr,Zcp,Zcq,Zcu,Zcv,Zcw,Zcx,Zcz,Zda,Q0,Q7,Q5,Q6,Z0,Z8,Zdk,Zdr,Zea,decide_false,Y0,Q1,Q3,if_true,Nat.reduceAdd,Nat.reduceSub,Nat.reduceLeDiff,Int.reduceNeg,eq_self,true_and,Q1,Q3,Z2,Z3,Q2,Q4,aload,acells,part,Z1,Q9,Z9,Q2,Q4,Q0,t1,hs,q1,resAll,resVals,resVal,Z6,Prod.mk.injEq,true_and,Y4,Bool.or_false,exists_eq']
theorem f_rule (g : GramD) (hg : g.Ok) (x : RuleD) (hx : x.Ok) (ahead : Int) (H : AHeap) : lim G0.cfg (.func 70) [.agg (eGram g), .agg (eRule x), .int .i64 ahead] H = some (.int .i64 (ruleErr g x ahead), H) := by
 refine lim_flat rfl rfl P_grammar_rule 1 (fun h => fz_3 (fz_gram g h) (fz_rule x h) rfl) ?_ (fun _ => rfl) H
 have w1 := f_within
 have hn := hg.nonterms
 rw [maxLen_eq] at hn
 have hw : IntKind.i64.wrap ((g.nonterms.length : Int) - 1) = (g.nonterms.length : Int) - 1 := w64 (by omega) (by omega)
 have c1 : lim G0.cfg (.func 43) [.vsl false (eIs x.right), .fn (.func 86) [] [.ptr 0 0 0 0]] [.arr 0 5 true [eGram g], .arr 0 5 true [eRule x]] = some (.bool (x.right.any (badSym g)), [.arr 0 5 true [eGram g], .arr 0 5 true [eRule x]]) :=
  f_ContainsFunc_sint_int (l := x.right) (g := 86) (caps := [.ptr 0 0 0 0]) (caps' := [.vptr (eGram g) 0]) (bs := [(.vptr (eGram g) 0, false)]) (p := badSym g) rfl rfl (fun s _ H => f_rule_1 g hg s H) hx.right (fun _ => rfl)
 rw [R_grammar_rule]
 by_cases q1 : 0 ≤ x.left
 case neg =>
  have hE : ruleErr g x ahead = 22 := if_pos (by omega)
  simp only [Zab,Zac,Zad,Zai,Zaj,Zak,Zam,Zar,Zay,Zaz,Zbd,Zbg,Zbi,Zbj,Zbk,Zbl,Zbn,Zbo,Zbq,Zbr,Zby,Zcg,Zcp,Zcq,Zcs,Zcu,Zcv,Zcw,Zcx,Zcz,Zda,Q0,Q7,Q5,Q6,Z0,Z8,Zdf,Zdr,Zdt,Zdx,Zdz,Zeb,Zeq,decide_false,Y2,Q8,Z4,Q1,Q3,if_true,Nat.reduceAdd,Nat.reduceSub,Nat.reduceLeDiff,eq_self,true_and,Q1,Q3,Z2,Z3,Q2,Q4,aload,acells,getArr,part,Z1,Z5,Q9,Z7,Q2,Q4,Q0,w1,hw,hE,q1,resAll,resVals,resVal,Z6,Prod.mk.injEq,true_and,Y4,exists_eq']
 case pos =>
 by_cases q2 : x.left ≤ (g.nonterms.length : Int) - 1
 case neg =>
  have hE : ruleErr g x ahead = 22 := if_pos (by omega)
  simp only [Zab,Zac,Zad,Zai,Zaj,Zak,Zam,Zar,Zay,Zaz,Zbd,Zbg,Zbi,Zbj,Zbk,Zbl,Zbn,Zbo,Zbq,Zbr,Zby,Zcg,Zcp,Zcq,Zcs,Zcu,Zcv,Zcw,Zcx,Zcz,Zda,Q0,Q7,Q5,Q6,Z0,Z8,Zdf,Zdr,Zdt,Zdx,Zdz,Zeb,Zeq,decide_true,decide_false,Y2,Q8,Z4,Q1,Q3,if_true,Nat.reduceAdd,Nat.reduceSub,Nat.reduceLeDiff,eq_self,true_and,Q1,Q3,Z2,Z3,Q2,Q4,aload,acells,getArr,part,Z1,Z5,Q9,Z7,Q2,Q4,Q0,w1,hw,hE,q1,q2,resAll,resVals,resVal,Z6,Prod.mk.injEq,true_and,Y5,exists_eq']
 case pos =>
 by_cases q3 : x.left < ahead
 case pos =>
  have hE : ruleErr g x ahead = 22 := if_pos (by omega)
  simp only [Zab,Zac,Zad,Zai,Zaj,Zak,Zam,Zar,Zay,Zaz,Zbc,Zbd,Zbg,Zbh,Zbi,Zbj,Zbk,Zbl,Zbn,Zbo,Zbq,Zbr,Zby,Zcg,Zcp,Zcq,Zcs,Zcu,Zcv,Zcw,Zcx,Zcz,Zda,Q0,Q7,Q5,Q6,Z0,Z8,Zdf,Zdh,Zdr,Zdt,Zdx,Zdz,Zeb,Zeq,decide_true,Y0,Q8,Z4,Q1,Q3,if_true,Nat.reduceAdd,Nat.reduceSub,Nat.reduceLeDiff,eq_self,true_and,Q1,Q3,Z2,Z3,Q2,Q4,aload,acells,getArr,part,Y1,Z1,Z5,Q9,Z7,Q2,Q4,Q0,w1,hw,hE,q1,q2,q3,resAll,resVals,resVal,Z6,Prod.mk.injEq,true_and,exists_eq']
 case neg =>
 by_cases q4 : (32 : Int) < x.right.length
 case pos =>
  have hE : ruleErr g x ahead = 22 := if_pos (by omega)
  simp only [Zab,Zac,Zad,Zai,Zaj,Zak,Zam,Zar,Zay,Zaz,Zbc,Zbh,Zbi,Zbj,Zbk,Zbl,Zbn,Zbo,Zbq,Zbr,Zby,Zcg,Zcp,Zcq,Zcs,Zcu,Zcv,Zcw,Zcx,Zcz,Zda,Q0,Q7,Q5,Q6,Z0,Z8,Zdf,Zdh,Zdj,Zdr,Zdt,Zdx,Zdz,Zeb,Zep,Zeq,decide_true,decide_false,Y0,Q8,Z4,Q1,Q3,if_true,Nat.reduceAdd,Nat.reduceSub,Nat.reduceLeDiff,eq_self,true_and,Q1,Q3,Z2,Z3,Q2,Q4,aload,acells,getArr,part,Y1,Z1,Z5,Q9,Z7,Q2,Q4,Q0,w1,hw,hE,q1,q2,q3,q4,resAll,resVals,resVal,Z6,Prod.mk.injEq,true_and,exists_eq']
 case neg =>
 have hE : ruleErr g x ahead = if x.right.any (badSym g) = true then 21
  else if (x.fields.length : Int) ≠ 0 ∧ (x.fields.length : Int) ≠ x.right.length then 25
  else if x.level < 0 ∨ (g.levels.length : Int) < x.level then 24
  else 0 := if_neg (by omega)
 rw [hE]
 clear hE
 cases q5 : x.right.any (badSym g)
 case true =>
  rw [q5] at c1
  simp only [Zaa,Zab,Zac,Zad,Zai,Zaj,Zak,Zam,Zar,Zas,Zay,Zaz,Zbc,Zbh,Zbi,Zbj,Zbk,Zbl,Zbn,Zbo,Zbq,Zbr,Zbt,Zby,Zcg,Zcp,Zcq,Zcs,Zcu,Zcv,Zcw,Zcx,Zcz,Zda,Q0,Q7,Q5,Q6,Z0,Z8,Zdf,Zdh,Zdj,Zdr,Zdt,Zdx,Zdz,Zeb,Zep,Zeq,decide_true,decide_false,Y0,Q8,Z4,Q1,Q3,if_true,Nat.reduceAdd,Nat.reduceSub,Nat.reduceLeDiff,eq_self,true_and,Q1,Q3,Z2,Z3,Q2,Q4,aload,acells,getArr,part,Y1,Z1,Z5,Q9,Z7,Q2,Q4,Q0,w1,hw,q1,q2,q3,q4,c1,resAll,resVals,resVal,Z6,Prod.mk.injEq,true_and,exists_eq']
 case false =>
 rw [q5] at c1
 simp only [Bool.false_eq_true,if_false]
 by_cases q6 : (x.fields.length : Int) = 0
 case pos =>
  have hE : ¬ ((x.fields.length : Int) ≠ 0 ∧ (x.fields.length : Int) ≠ x.right.length) := by omega
  rw [if_neg hE]
  by_cases q8 : 0 ≤ x.level
  case neg =>
   rw [if_pos (by omega)]
   simp only [Zaa,Zab,Zac,Zad,Zai,Zaj,Zak,Zam,Zar,Zas,Zay,Zaz,Zbc,Zbe,Zbh,Zbi,Zbj,Zbk,Zbl,Zbn,Zbo,Zbq,Zbr,Zbt,Zby,Zcg,Zcp,Zcq,Zcs,Zcu,Zcv,Zcw,Zcx,Zcz,Zda,Q0,Q7,Q5,Q6,Z0,Z8,Zdf,Zdh,Zdj,Zdm,Zdr,Zdt,Zdx,Zdz,Zeb,Zep,Zeq,decide_true,decide_false,Y0,Y2,Q8,Z4,Q1,Q3,if_true,Nat.reduceAdd,Nat.reduceSub,Nat.reduceLeDiff,eq_self,true_and,Y3,Q1,Q3,Z2,Z3,Q2,Q4,aload,acells,getArr,part,Y1,Z1,Z5,Q9,Z7,Z9,Q2,Q4,Q0,w1,hw,q1,q2,q3,q4,q6,q8,c1,resAll,resVals,resVal,Z6,Prod.mk.injEq,true_and,Y4,exists_eq']
  case pos =>
  by_cases q9 : x.level ≤ (g.levels.length : Int)
  case neg =>
   rw [if_pos (by omega)]
   simp only [Zaa,Zab,Zac,Zad,Zai,Zaj,Zak,Zam,Zar,Zas,Zay,Zaz,Zbc,Zbe,Zbh,Zbi,Zbj,Zbk,Zbl,Zbn,Zbo,Zbq,Zbr,Zbt,Zby,Zcg,Zcp,Zcq,Zcs,Zcu,Zcv,Zcw,Zcx,Zcz,Zda,Q0,Q7,Q5,Q6,Z0,Z8,Zdf,Zdh,Zdj,Zdm,Zdr,Zdt,Zdx,Zdz,Zeb,Zep,Zeq,decide_true,decide_false,Y0,Y2,Q8,Z4,Q1,Q3,if_true,Nat.reduceAdd,Nat.reduceSub,Nat.reduceLeDiff,eq_self,true_and,Y3,Q1,Q3,Z2,Z3,Q2,Q4,aload,acells,getArr,part,Y1,Z1,Z5,Q9,Z7,Z9,Q2,Q4,Q0,Y3,w1,hw,q1,q2,q3,q4,q6,q8,q9,c1,resAll,resVals,resVal,Z6,Prod.mk.injEq,true_and,Y5,exists_eq']
  case pos =>
   rw [if_neg (by omega)]
   simp only [Zaa,Zab,Zac,Zad,Zai,Zaj,Zak,Zas,Zay,Zaz,Zbc,Zbe,Zbh,Zbi,Zbj,Zbk,Zbl,Zbn,Zbo,Zbq,Zbr,Zbt,Zby,Zcg,Zcp,Zcq,Zcs,Zcu,Zcv,Zcw,Zcx,Zcz,Zda,Q0,Q7,Q5,Q6,Z0,Z8,Zdf,Zdh,Zdj,Zdm,Zdr,Zdt,Zdx,Zdz,Zeb,Zep,Zeq,decide_true,decide_false,Y0,Q8,Z4,Q1,Q3,if_true,Nat.reduceAdd,Nat.reduceSub,Nat.reduceLeDiff,eq_self,true_and,Y3,Q1,Q3,Z2,Z3,Q2,Q4,aload,acells,getArr,part,Y1,Z1,Z5,Q9,Z7,Z9,Q2,Q4,Q0,Y3,w1,hw,q1,q2,q3,q4,q6,q8,q9,c1,resAll,resVals,resVal,Z6,Prod.mk.injEq,true_and,exists_eq']
 case neg =>
 by_cases q7 : (x.fields.length : Int) = x.right.length
 case neg =>
  rw [if_pos ⟨q6, q7⟩]
  simp only [Zaa,Zab,Zac,Zad,Zai,Zaj,Zak,Zam,Zar,Zas,Zay,Zaz,Zbb,Zbc,Zbg,Zbh,Zbi,Zbj,Zbk,Zbl,Zbn,Zbo,Zbq,Zbr,Zbt,Zby,Zcg,Zcp,Zcq,Zcs,Zcu,Zcv,Zcw,Zcx,Zcz,Zda,Q0,Q7,Q5,Q6,Z0,Z8,Zdf,Zdh,Zdj,Zdm,Zdr,Zdt,Zdx,Zdz,Zeb,Zep,Zeq,decide_true,decide_false,Y0,Y2,Q8,Z4,Q1,Q3,if_true,Nat.reduceAdd,Nat.reduceSub,Nat.reduceLeDiff,eq_self,true_and,Q1,Q3,Z2,Z3,Q2,Q4,aload,acells,getArr,part,Y1,Z1,Z5,Q9,Z7,Q2,Q4,Q0,w1,hw,q1,q2,q3,q4,q6,q7,c1,resAll,resVals,resVal,Z6,Prod.mk.injEq,true_and,exists_eq']
 case pos =>
  have q6' : ¬ (x.right.length : Int) = 0 := by omega
  have hE : ¬ ((x.fields.length : Int) ≠ 0 ∧ (x.fields.length : Int) ≠ x.right.length) := by omega
  rw [if_neg hE]
  by_cases q8 : 0 ≤ x.level
  case neg =>
   rw [if_pos (by omega)]
   simp only [Zaa,Zab,Zac,Zad,Zai,Zaj,Zak,Zam,Zar,Zas,Zay,Zaz,Zbb,Zbc,Zbg,Zbh,Zbi,Zbj,Zbk,Zbl,Zbn,Zbo,Zbq,Zbr,Zbt,Zby,Zcg,Zcp,Zcq,Zcs,Zcu,Zcv,Zcw,Zcx,Zcz,Zda,Q0,Q7,Q5,Q6,Z0,Z8,Zdf,Zdh,Zdj,Zdm,Zdr,Zdt,Zdx,Zdz,Zeb,Zep,Zeq,decide_true,decide_false,Y0,Y2,Q8,Z4,Q1,Q3,if_true,Nat.reduceAdd,Nat.reduceSub,Nat.reduceLeDiff,eq_self,true_and,Y3,Q1,Q3,Z2,Z3,Q2,Q4,aload,acells,getArr,part,Y1,Z1,Z5,Q9,Z7,Z9,Q2,Q4,Q0,w1,hw,q1,q2,q3,q4,q6',q7,q8,c1,resAll,resVals,resVal,Z6,Prod.mk.injEq,true_and,Y4,exists_eq']
  case pos =>
  by_cases q9 : x.level ≤ (g.levels.length : Int)
  case neg =>
   rw [if_pos (by omega)]
   simp only [Zaa,Zab,Zac,Zad,Zai,Zaj,Zak,Zam,Zar,Zas,Zay,Zaz,Zbb,Zbc,Zbg,Zbh,Zbi,Zbj,Zbk,Zbl,Zbn,Zbo,Zbq,Zbr,Zbt,Zby,Zcg,Zcp,Zcq,Zcs,Zcu,Zcv,Zcw,Zcx,Zcz,Zda,Q0,Q7,Q5,Q6,Z0,Z8,Zdf,Zdh,Zdj,Zdm,Zdr,Zdt,Zdx,Zdz,Zeb,Zep,Zeq,decide_true,decide_false,Y0,Y2,Q8,Z4,Q1,Q3,if_true,Nat.reduceAdd,Nat.reduceSub,Nat.reduceLeDiff,eq_self,true_and,Y3,Q1,Q3,Z2,Z3,Q2,Q4,aload,acells,getArr,part,Y1,Z1,Z5,Q9,Z7,Z9,Q2,Q4,Q0,Y3,w1,hw,q1,q2,q3,q4,q6',q7,q8,q9,c1,resAll,resVals,resVal,Z6,Prod.mk.injEq,true_and,Y5,exists_eq']
  case pos =>
   rw [if_neg (by omega)]
   simp only [Zaa,Zab,Zac,Zad,Zai,Zaj,Zak,Zas,Zay,Zaz,Zbb,Zbc,Zbg,Zbh,Zbi,Zbj,Zbk,Zbl,Zbn,Zbo,Zbq,Zbr,Zbt,Zby,Zcg,Zcp,Zcq,Zcs,Zcu,Zcv,Zcw,Zcx,Zcz,Zda,Q0,Q7,Q5,Q6,Z0,Z8,Zdf,Zdh,Zdj,Zdm,Zdr,Zdt,Zdx,Zdz,Zeb,Zep,Zeq,decide_true,decide_false,Y0,Y2,Q8,Z4,Q1,Q3,if_true,Nat.reduceAdd,Nat.reduceSub,Nat.reduceLeDiff,eq_self,true_and,Y3,Q1,Q3,Z2,Z3,Q2,Q4,aload,acells,getArr,part,Y1,Z1,Z5,Q9,Z7,Z9,Q2,Q4,Q0,Y3,w1,hw,q1,q2,q3,q4,q6',q7,q8,q9,c1,resAll,resVals,resVal,Z6,Prod.mk.injEq,true_and,exists_eq']
theorem f_right_loop0 (g : GramD) (hg : g.Ok) (n : Nat) : ∀ (d i m : Nat) (a : Int) (h : AHeap), g.rules.length = i + d → d < m → h[0]? = some (.arr 0 5 true [eGram g]) → ∃ h', h'[0]? = some (.arr 0 5 true [eGram g]) ∧
  loopN (evalCode (lim G0.cfg) n B_grammar_Right_0) m ⟨(J::.ptr 0 0 0 0::J::.int .i64 a::J::J::J::J::J::J::J::J::J::J::J::J::J::J::J::J::J::J::J::J::J::J::J::J::J::J::.vsl false (g.rules.map eRule) :: .int .i64 g.rules.length :: .int .i64 i::J::J::J::J::J::J::J::J::J::J::J::J::J::J::J::J::J::J::J::J::J::J::J::J::J::J::J::J::J::J::J::J::J::J::J::J::J::J::J::J::J::J::J::J::J::J::J::J::J::J::J::J::J::[]), h⟩ =
   if rulesErr g (g.rules.drop i) a = 0 then some (.exit 1, ⟨(J::.ptr 0 0 0 0::J::J::J::J::J::J::J::J::J::J::J::J::J::J::J::J::J::J::J::J::J::J::J::J::J::J::J::J::J::J::J::J::J::J::J::J::J::J::J::J::J::J::J::J::J::J::J::J::J::J::J::J::J::J::J::J::J::J::J::J::J::J::J::J::J::J::J::J::J::J::J::J::J::J::J::J::J::J::J::J::J::J::J::J::[]), h'⟩) else some (.ret, ⟨(J::J::.int .i64 (rulesErr g (g.rules.drop i) a)::J::J::J::J::J::J::J::J::J::J::J::J::J::J::J::J::J::J::J::J::J::J::J::J::J::J::J::J::J::J::J::J::J::J::J::J::J::J::J::J::J::J::J::J::J::J::J::J::J::J::J::J::J::J::J::J::J::J::J::J::J::J::J::J::J::J::J::J::J::J::J::J::J::J::J::J::J::J::J::J::J::J::J::[]), h'⟩) := by
 have hm := hg.rules
 rw [maxLen_eq] at hm
 intro d
 induction d with
 | zero =>
  intro i m a h h1 h2 hb
  obtain ⟨m, rfl⟩ : ∃ q, m = q + 1 := ⟨m - 1, by omega⟩
  have e1 : g.rules.drop i = [] := List.drop_eq_nil_iff.2 (by omega)
  have h3 : ¬ ((i : Int) < g.rules.length) := by omega
  exact ⟨h, hb, by simp only [loop_e,EB_grammar_Right_0,Zab,Zac,Zad,Zag,Zah,Zaj,Zak,Zal,Zas,Zav,Zay,Zbi,Zbq,Zcv,Zcx,Zdb,Zdc,Zdd,Q0,Q7,Q5,Q6,Zdh,decide_false,if_true,eq_self,h3,e1,rulesErr]⟩
 | succ d ih =>
  intro i m a h h1 h2 hb
  obtain ⟨m, rfl⟩ : ∃ q, m = q + 1 := ⟨m - 1, by omega⟩
  have h3 : i < g.rules.length := by omega
  have h3' : (i : Int) < g.rules.length := by omega
  have e1 : g.rules.drop i = g.rules[i] :: g.rules.drop (i + 1) := List.drop_eq_getElem_cons h3
  have hw := w64s (n := i) (by omega)
  have hr := f_rule g hg g.rules[i] (hg.rule _ (List.getElem_mem h3)) a
  have hb2 := get_app hb [.arr 0 5 true [eRule g.rules[i]]]
  by_cases q : ruleErr g g.rules[i] a = 0
  ·obtain ⟨h', hb', e⟩ := ih (i + 1) m (g.rules[i]).left (h ++ [.arr 0 5 true [eRule g.rules[i]]]) (by omega) (by omega) hb2
   refine ⟨h', hb', ?_⟩
   have e2 : rulesErr g (g.rules.drop i) a = rulesErr g (g.rules.drop (i + 1)) (g.rules[i]).left := by rw [e1]; simp [rulesErr, q]
   rw [e2]
   simp only [loop_e,EB_grammar_Right_0,Zaa,Zab,Zac,Zad,Zae,Zag,Zaj,Zak,Zan,Zar,Zas,Zau,Zay,Zaz,Zba,Zbi,Zbk,Zbm,Zbo,Zbp,Zbq,Zby,Zcb,Zcp,Zcq,Zcv,Zcw,Zcx,Zcy,Zcz,Zda,Zdb,Zdc,Zdd,Q0,Q7,Q5,Q6,Z0,Zde,Zdh,Zdm,Zdx,Zdz,Zea,Zeb,decide_true,Y0,Q8,Q1,Q3,if_true,Nat.reduceAdd,Nat.reduceLeDiff,eq_self,and_self,aload,acells,getArr,part,astore,putCells,get_new,set_new,List.all_cons,List.all_nil,cellOk,Y1,Z1,Z5,Q9,Z7,Z9,Q2,Q4,Q0,h3',ix_map eRule _ 5 _ g.rules _ i h3 rfl,hw,hb2,hr,q,e]
  ·refine ⟨h ++ [.arr 0 5 true [eRule g.rules[i]]], hb2, ?_⟩
   have e2 : rulesErr g (g.rules.drop i) a = ruleErr g g.rules[i] a := by rw [e1]; simp [rulesErr, q]
   rw [e2, if_neg q]
   simp only [loop_e,EB_grammar_Right_0,Zaa,Zab,Zac,Zad,Zae,Zag,Zai,Zaj,Zak,Zam,Zao,Zar,Zaw,Zay,Zaz,Zba,Zbi,Zbk,Zbm,Zbo,Zbp,Zbq,Zcb,Zcp,Zcq,Zcv,Zcw,Zcx,Zcy,Zcz,Zda,Zdb,Zdc,Zdd,Q0,Q7,Q5,Q6,Z0,Zdh,Zdm,Zea,Zeb,decide_true,decide_false,Y2,Q8,Q1,Q3,if_true,Nat.reduceAdd,Nat.reduceLeDiff,eq_self,and_self,aload,acells,getArr,part,astore,putCells,get_new,set_new,List.all_cons,List.all_nil,cellOk,Y1,Z1,Z5,Q9,Z7,Z9,Q2,Q4,Q0,h3',ix_map eRule _ 5 _ g.rules _ i h3 rfl,hb2,hr,q]
def SameKeys (L : List (Int × Int)) (seen : List Int) : Prop := ∀ t, (mGet L t).getD 0 = if t ∈ seen then 1 else 0
theorem f_right_loop2 (g : GramD) (hg : g.Ok) (n : Nat) (ts : List Int) (ht : ts.length ≤ maxLen) (x1 x2 x3 : AV) (i1 : Nat) (hi1 : i1 ≠ 0) : ∀ (d i m : Nat) (L : List (Int × Int)) (seen : List Int) (h : AHeap), ts.length = i + d → d < m → SameKeys L seen →
  h[0]? = some (.arr 0 5 true [eGram g]) → h[i1]? = some (.map (mE (AV.int .i64) (AV.int .i64) L)) →
  match termsGo g.terms.length (ts.drop i) seen with
  | some s' => ∃ L' h', SameKeys L' s' ∧ h'[0]? = some (.arr 0 5 true [eGram g]) ∧ h'[i1]? = some (.map (mE (AV.int .i64) (AV.int .i64) L')) ∧
   loopN (evalCode (lim G0.cfg) n B_grammar_Right_2) m ⟨(J::.ptr 0 0 0 0::J::J::J::J::J::.map i1::J::J::J::J::J::J::J::J::J::J::J::J::J::J::J::J::J::J::J::J::J::J::J::J::J::J::J::J::J::J::J::J::J::J::J::J::J::J::J::J::x1 :: x2 :: x3::J::J::J::J::J::J::J::J::J::J::J::J::.vsl false (eIs ts) :: .int .i64 ts.length :: .int .i64 i::J::J::J::J::J::J::J::J::J::J::J::J::J::J::J::J::J::J::J::J::[]), h⟩ =
    some (.exit 5, ⟨(J::.ptr 0 0 0 0::J::J::J::J::J::.map i1::J::J::J::J::J::J::J::J::J::J::J::J::J::J::J::J::J::J::J::J::J::J::J::J::J::J::J::J::J::J::J::J::J::J::J::J::J::J::J::J::x1 :: x2 :: x3::J::J::J::J::J::J::J::J::J::J::J::J::J::J::J::J::J::J::J::J::J::J::J::J::J::J::J::J::J::J::J::J::J::J::J::[]), h'⟩)
  | none => ∃ h', loopN (evalCode (lim G0.cfg) n B_grammar_Right_2) m ⟨(J::.ptr 0 0 0 0::J::J::J::J::J::.map i1::J::J::J::J::J::J::J::J::J::J::J::J::J::J::J::J::J::J::J::J::J::J::J::J::J::J::J::J::J::J::J::J::J::J::J::J::J::J::J::J::x1 :: x2 :: x3::J::J::J::J::J::J::J::J::J::J::J::J::.vsl false (eIs ts) :: .int .i64 ts.length :: .int .i64 i::J::J::J::J::J::J::J::J::J::J::J::J::J::J::J::J::J::J::J::J::[]), h⟩ =
    some (.ret, ⟨(J::J::.int .i64 24::J::J::J::J::J::J::J::J::J::J::J::J::J::J::J::J::J::J::J::J::J::J::J::J::J::J::J::J::J::J::J::J::J::J::J::J::J::J::J::J::J::J::J::J::J::J::J::J::J::J::J::J::J::J::J::J::J::J::J::J::J::J::J::J::J::J::J::J::J::J::J::J::J::J::J::J::J::J::J::J::J::J::J::[]), h'⟩) := by
 rw [maxLen_eq] at ht
 have hT := hg.terms
 rw [maxLen_eq] at hT
 have w1 := f_within
 have hwT : IntKind.i64.wrap ((g.terms.length : Int) - 1) = (g.terms.length : Int) - 1 := w64 (by omega) (by omega)
 intro d
 induction d with
 | zero =>
  intro i m L seen h h1 h2 hs hb hl
  obtain ⟨m, rfl⟩ : ∃ q, m = q + 1 := ⟨m - 1, by omega⟩
  have e1 : ts.drop i = [] := List.drop_eq_nil_iff.2 (by omega)
  have h3 : ¬ ((i : Int) < ts.length) := by omega
  rw [e1]
  exact ⟨L, h, hs, hb, hl, by simp only [loop_e,EB_grammar_Right_2,Zab,Zac,Zad,Zag,Zah,Zaj,Zak,Zal,Zas,Zav,Zay,Zbi,Zbq,Zcv,Zcx,Zdb,Zdc,Zdd,Q0,Q7,Q5,Q6,Zdh,decide_false,eq_self,h3]⟩
 | succ d ih =>
  intro i m L seen h h1 h2 hs hb hl
  obtain ⟨m, rfl⟩ : ∃ q, m = q + 1 := ⟨m - 1, by omega⟩
  have h3 : i < ts.length := by omega
  have h3' : (i : Int) < ts.length := by omega
  have e1 : ts.drop i = ts[i] :: ts.drop (i + 1) := List.drop_eq_getElem_cons h3
  have hw := w64s (n := i) (by omega)
  have a1 : alook h .int (.int .i64 0) false (.map i1) (.int .i64 ts[i]) = some (.int .i64 ((mGet L ts[i]).getD 0)) := by
   rw [alook_mE .int (AV.int .i64) (AV.int .i64) keyFit_int hl, getD_int]
  have a2 := amapUpd_mE .int (AV.int .i64) (AV.int .i64) keyFit_int hl ts[i] 1
  rw [e1]
  simp only [termsGo]
  by_cases q1 : (2 : Int) ≤ ts[i]
  case neg =>
   rw [if_pos (by omega)]
   exact ⟨h, by simp only [loop_e,EB_grammar_Right_2,Zaa,Zab,Zac,Zad,Zae,Zag,Zai,Zaj,Zak,Zam,Zao,Zar,Zaw,Zay,Zaz,Zbd,Zbg,Zbi,Zbj,Zbk,Zbl,Zbo,Zbq,Zbr,Zby,Zcb,Zcg,Zcp,Zcq,Zcv,Zcw,Zcx,Zcz,Zda,Zdb,Zdc,Zdd,Q0,Q7,Q5,Q6,Z0,Zdf,Zdh,Zdr,Zdt,Zdx,Zdz,Zeq,decide_true,decide_false,Y2,Q8,Q1,Q3,if_true,Nat.reduceAdd,Nat.reduceLeDiff,eq_self,aload,acells,getArr,part,eI,Z1,Q9,Z7,Z9,Q2,Q4,Q0,h3',ix_eIs _ _ ts _ i h3,hb,w1,hwT,q1,Y4]⟩
  case pos =>
  by_cases q2 : ts[i] ≤ (g.terms.length : Int) - 1
  case neg =>
   rw [if_pos (by omega)]
   exact ⟨h, by simp only [loop_e,EB_grammar_Right_2,Zaa,Zab,Zac,Zad,Zae,Zag,Zai,Zaj,Zak,Zam,Zao,Zar,Zaw,Zay,Zaz,Zbd,Zbg,Zbi,Zbj,Zbk,Zbl,Zbo,Zbq,Zbr,Zby,Zcb,Zcg,Zcp,Zcq,Zcv,Zcw,Zcx,Zcz,Zda,Zdb,Zdc,Zdd,Q0,Q7,Q5,Q6,Z0,Zdf,Zdh,Zdr,Zdt,Zdx,Zdz,Zeq,decide_true,decide_false,Y2,Q8,Q1,Q3,if_true,Nat.reduceAdd,Nat.reduceLeDiff,eq_self,aload,acells,getArr,part,eI,Z1,Q9,Z7,Z9,Q2,Q4,Q0,h3',ix_eIs _ _ ts _ i h3,hb,w1,hwT,q1,q2,Y5]⟩
  case pos =>
  have hsi := hs ts[i]
  by_cases q3 : ts[i] ∈ seen
  case pos =>
   rw [if_pos q3] at hsi
   rw [if_pos (.inr (.inr q3))]
   exact ⟨h, by simp only [loop_e,EB_grammar_Right_2,Zaa,Zab,Zac,Zad,Zae,Zag,Zai,Zaj,Zak,Zam,Zao,Zar,Zaw,Zay,Zaz,Zbc,Zbh,Zbi,Zbj,Zbk,Zbl,Zbo,Zbq,Zbr,Zby,Zcb,Zcd,Zcg,Zcp,Zcq,Zcv,Zcw,Zcx,Zcz,Zda,Zdb,Zdc,Zdd,Q0,Q7,Q5,Q6,Z0,Zdf,Zdh,Zdj,Zdr,Zdt,Zdx,Zdz,Zeq,decide_true,Y0,Q8,Q1,Q3,if_true,Nat.reduceAdd,Nat.reduceLeDiff,Int.reduceLT,eq_self,aload,acells,getArr,part,eI,Y1,Z1,Q9,Z7,Z9,Q2,Q4,Q0,h3',ix_eIs _ _ ts _ i h3,hb,w1,hwT,q1,q2,a1,hsi]⟩
  case neg =>
  rw [if_neg q3] at hsi
  rw [if_neg (by rintro (h | h | h); omega; omega; exact q3 h)]
  have hs' : SameKeys (mPut L ts[i] 1) (ts[i] :: seen) := fun t => by
   rw [mGet_put]
   by_cases e : t = ts[i]
   ·simp [e]
   ·simp only [e,if_false,List.mem_cons,false_or]; exact hs t
  have hb' : (h.set i1 (.map (mE (AV.int .i64) (AV.int .i64) (mPut L ts[i] 1))))[0]? = some (.arr 0 5 true [eGram g]) := by
   rw [List.getElem?_set_ne hi1]; exact hb
  have hl' : (h.set i1 (.map (mE (AV.int .i64) (AV.int .i64) (mPut L ts[i] 1))))[i1]? = some (.map (mE (AV.int .i64) (AV.int .i64) (mPut L ts[i] 1))) :=
   List.getElem?_set_self (List.getElem?_eq_some_iff.1 hl).1
  have := ih (i + 1) m (mPut L ts[i] 1) (ts[i] :: seen) _ (by omega) (by omega) hs' hb' hl'
  have hstep : loopN (evalCode (lim G0.cfg) n B_grammar_Right_2) (m + 1) ⟨(J::.ptr 0 0 0 0::J::J::J::J::J::.map i1::J::J::J::J::J::J::J::J::J::J::J::J::J::J::J::J::J::J::J::J::J::J::J::J::J::J::J::J::J::J::J::J::J::J::J::J::J::J::J::J::x1 :: x2 :: x3::J::J::J::J::J::J::J::J::J::J::J::J::.vsl false (eIs ts) :: .int .i64 ts.length :: .int .i64 i::J::J::J::J::J::J::J::J::J::J::J::J::J::J::J::J::J::J::J::J::[]), h⟩ =
    loopN (evalCode (lim G0.cfg) n B_grammar_Right_2) m ⟨(J::.ptr 0 0 0 0::J::J::J::J::J::.map i1::J::J::J::J::J::J::J::J::J::J::J::J::J::J::J::J::J::J::J::J::J::J::J::J::J::J::J::J::J::J::J::J::J::J::J::J::J::J::J::J::x1 :: x2 :: x3::J::J::J::J::J::J::J::J::J::J::J::J::.vsl false (eIs ts) :: .int .i64 ts.length :: .int .i64 ((i + 1 : Nat) : Int)::J::J::J::J::J::J::J::J::J::J::J::J::J::J::J::J::J::J::J::J::[]), h.set i1 (.map (mE (AV.int .i64) (AV.int .i64) (mPut L ts[i] 1)))⟩ := by
   simp only [loop_e,EB_grammar_Right_2,Zaa,Zab,Zac,Zad,Zae,Zag,Zaj,Zak,Zan,Zar,Zas,Zau,Zay,Zaz,Zba,Zbc,Zbh,Zbi,Zbj,Zbk,Zbl,Zbo,Zbq,Zbr,Zby,Zcb,Zcd,Zce,Zcg,Zcp,Zcq,Zcv,Zcw,Zcx,Zcy,Zcz,Zda,Zdb,Zdc,Zdd,Q0,Q7,Q5,Q6,Z0,Zde,Zdf,Zdh,Zdj,Zdr,Zdt,Zdx,Zdz,Zeq,decide_true,decide_false,Y0,Q8,Q1,Q3,if_true,Nat.reduceAdd,Nat.reduceLeDiff,Int.reduceLT,eq_self,aload,acells,getArr,part,eI,Y1,Z1,Q9,Z7,Z9,Q2,Q4,Q0,h3',ix_eIs _ _ ts _ i h3,hb,w1,hwT,q1,q2,a1,a2,hsi,hw]
  simp only [hstep]
  exact this
end Go.Proofs.Ytkimloceaihplaa.Ai
namespace Go.Proofs.Ytkimloceaihplaa.Ai
open Go Go.Proofs
open AV renaming junk → J
open List renaming set_cons_zero → Q0, length_cons → Q1, cons_append → Q2, length_nil → Q3, nil_append → Q4, getElem?_cons_zero → Q5, getD_cons_zero → Q6, getD_cons_succ → Q7, set_cons_succ → Q8, take_succ_cons → Q9, drop_zero → Z0, drop_succ_cons → Z2, take_nil → Z3, take_zero → Z4, replicate_succ → Z5, replicate_zero → Z6, length_map → Y0
open Option renaming bind_some → Z1, map_some → Z9
open Option.some renaming injEq → Z7
open Bool renaming true_eq_false → Z8, not_true → Y1, false_eq_true → Y2
set_option linter.unusedVariables false
set_option linter.unusedSimpArgs false
set_option maxRecDepth 10000
theorem f_right_loop1 (g : GramD) (hg : g.Ok) (n : Nat) (hn : ∀ l ∈ g.levels, l.terms.length < n) (i1 : Nat) (hi1 : i1 ≠ 0) : ∀ (d i m : Nat) (L : List (Int × Int)) (seen : List Int) (h : AHeap), g.levels.length = i + d → d < m → SameKeys L seen →
  h[0]? = some (.arr 0 5 true [eGram g]) → h[i1]? = some (.map (mE (AV.int .i64) (AV.int .i64) L)) →
  ∃ h', loopN (evalCode (lim G0.cfg) n B_grammar_Right_1) m ⟨(J::.ptr 0 0 0 0::J::J::J::J::J::.map i1::J::J::J::J::J::J::J::J::J::J::J::J::J::J::J::J::J::J::J::J::J::J::J::J::J::J::J::J::J::J::J::J::J::J::J::J::J::J::J::J::.vsl false (g.levels.map eLevel) :: .int .i64 g.levels.length :: .int .i64 i::J::J::J::J::J::J::J::J::J::J::J::J::J::J::J::J::J::J::J::J::J::J::J::J::J::J::J::J::J::J::J::J::J::J::J::[]), h⟩ =
    bif levelsGo g.terms.length (g.levels.drop i) seen then some (.exit 3, ⟨(J::J::J::J::J::J::J::J::J::J::J::J::J::J::J::J::J::J::J::J::J::J::J::J::J::J::J::J::J::J::J::J::J::J::J::J::J::J::J::J::J::J::J::J::J::J::J::J::J::J::J::J::J::J::J::J::J::J::J::J::J::J::J::J::J::J::J::J::J::J::J::J::J::J::J::J::J::J::J::J::J::J::J::J::J::J::[]), h'⟩) else some (.ret, ⟨(J::J::.int .i64 24::J::J::J::J::J::J::J::J::J::J::J::J::J::J::J::J::J::J::J::J::J::J::J::J::J::J::J::J::J::J::J::J::J::J::J::J::J::J::J::J::J::J::J::J::J::J::J::J::J::J::J::J::J::J::J::J::J::J::J::J::J::J::J::J::J::J::J::J::J::J::J::J::J::J::J::J::J::J::J::J::J::J::J::[]), h'⟩) := by
 have hm := hg.levels
 rw [maxLen_eq] at hm
 intro d
 induction d with
 | zero =>
  intro i m L seen h h1 h2 hs hb hl
  obtain ⟨m, rfl⟩ : ∃ q, m = q + 1 := ⟨m - 1, by omega⟩
  have e1 : g.levels.drop i = [] := List.drop_eq_nil_iff.2 (by omega)
  have h3 : ¬ ((i : Int) < g.levels.length) := by omega
  exact ⟨h, by simp only [loop_e,EB_grammar_Right_1,Zab,Zac,Zad,Zag,Zah,Zaj,Zak,Zal,Zas,Zav,Zay,Zbi,Zbq,Zcv,Zcx,Zdc,Zdd,Q0,Q8,Q6,Q7,Zdh,decide_false,eq_self,cond_true,h3,e1,levelsGo]⟩
 | succ d ih =>
  intro i m L seen h h1 h2 hs hb hl
  obtain ⟨m, rfl⟩ : ∃ q, m = q + 1 := ⟨m - 1, by omega⟩
  have h3 : i < g.levels.length := by omega
  have h3' : (i : Int) < g.levels.length := by omega
  have e1 : g.levels.drop i = g.levels[i] :: g.levels.drop (i + 1) := List.drop_eq_getElem_cons h3
  have hw := w64s (n := i) (by omega)
  have hmem : g.levels[i] ∈ g.levels := List.getElem_mem h3
  have hb2 := get_app hb [.arr 0 2 true [eLevel g.levels[i]]]
  have hl2 := get_app hl [.arr 0 2 true [eLevel g.levels[i]]]
  rw [e1]
  simp only [levelsGo]
  by_cases q1 : (g.levels[i]).assoc < 1
  case pos =>
   rw [if_pos (.inl q1)]
   exact ⟨h ++ [.arr 0 2 true [eLevel g.levels[i]]], by simp only [loop_e,EB_grammar_Right_1,Zaa,Zab,Zac,Zad,Zae,Zag,Zai,Zaj,Zak,Zam,Zao,Zar,Zaw,Zay,Zba,Zbd,Zbg,Zbi,Zbj,Zbk,Zbl,Zbm,Zbo,Zbp,Zbq,Zby,Zcb,Zcv,Zcw,Zcx,Zcy,Zdb,Zdc,Zdd,Q0,Q8,Q6,Q7,Z1,Zdh,Zdx,Zdz,Zea,Zeb,decide_true,Q5,Q1,Q3,if_true,Nat.reduceAdd,Nat.reduceLeDiff,eq_self,and_self,cond_false,aload,acells,getArr,part,astore,putCells,get_new,set_new,List.all_cons,List.all_nil,cellOk,Bool.and_self,Z0,Z2,Q9,Z4,Z3,Q2,Q4,Q0,h3',ix_map eLevel _ 2 _ g.levels _ i h3 rfl,q1]⟩
  case neg =>
  by_cases q2 : 4 < (g.levels[i]).assoc
  case pos =>
   rw [if_pos (.inr q2)]
   exact ⟨h ++ [.arr 0 2 true [eLevel g.levels[i]]], by simp only [loop_e,EB_grammar_Right_1,Zaa,Zab,Zac,Zad,Zae,Zag,Zai,Zaj,Zak,Zam,Zao,Zar,Zaw,Zay,Zba,Zbc,Zbh,Zbi,Zbj,Zbk,Zbl,Zbm,Zbo,Zbp,Zbq,Zby,Zcb,Zcv,Zcw,Zcx,Zcy,Zdb,Zdc,Zdd,Q0,Q8,Q6,Q7,Z1,Zdh,Zdj,Zdx,Zdz,Zea,Zeb,decide_true,decide_false,Q5,Q1,Q3,if_true,Nat.reduceAdd,Nat.reduceLeDiff,eq_self,and_self,cond_false,aload,acells,getArr,part,astore,putCells,get_new,set_new,List.all_cons,List.all_nil,cellOk,Bool.and_self,Z0,Z2,Q9,Z4,Z3,Q2,Q4,Q0,h3',ix_map eLevel _ 2 _ g.levels _ i h3 rfl,q1,q2]⟩
  case neg =>
  rw [if_neg (by omega)]
  have inner := f_right_loop2 g hg n (g.levels[i]).terms (hg.level _ hmem) (.vsl false (g.levels.map eLevel)) (.int .i64 g.levels.length) (.int .i64 i) i1 hi1 (g.levels[i]).terms.length 0 n L seen _ (by omega) (hn _ hmem) hs hb2 hl2
  rw [Z0, z0] at inner
  cases hq : termsGo g.terms.length (g.levels[i]).terms seen with
  | none =>
   rw [hq] at inner
   obtain ⟨h', e⟩ := inner
   refine ⟨h', ?_⟩
   simp only [loop_e,EB_grammar_Right_1,Zaa,Zab,Zac,Zad,Zae,Zaf,Zag,Zaj,Zak,Zam,Zao,Zar,Zas,Zat,Zaw,Zay,Zba,Zbc,Zbh,Zbi,Zbj,Zbk,Zbl,Zbm,Zbo,Zbp,Zbq,Zby,Zcb,Zcg,Zcv,Zcw,Zcx,Zcy,Zdb,Zdc,Zdd,Q0,Q8,Q6,Q7,Z1,Zdh,Zdj,Zdt,Zdx,Zdz,Zea,Zeb,Zep,decide_true,decide_false,Q5,Q1,Q3,if_true,Nat.reduceAdd,Nat.reduceLeDiff,eq_self,and_self,cond_false,aload,acells,getArr,part,astore,putCells,get_new,set_new,List.all_cons,List.all_nil,cellOk,Bool.and_self,Z0,Z2,Q9,Z4,Z3,Q2,Q4,Q0,h3',ix_map eLevel _ 2 _ g.levels _ i h3 rfl,q1,q2,e]
  | some s' =>
   rw [hq] at inner
   obtain ⟨L', h', hs', hb', hl', e⟩ := inner
   obtain ⟨h'', e'⟩ := ih (i + 1) m L' s' h' (by omega) (by omega) hs' hb' hl'
   refine ⟨h'', ?_⟩
   simp only [loop_e,EB_grammar_Right_1,Zaa,Zab,Zac,Zad,Zae,Zaf,Zag,Zaj,Zak,Zan,Zap,Zar,Zas,Zat,Zau,Zay,Zba,Zbc,Zbh,Zbi,Zbj,Zbk,Zbl,Zbm,Zbo,Zbp,Zbq,Zby,Zcb,Zcg,Zcv,Zcw,Zcx,Zcy,Zdb,Zdc,Zdd,Q0,Q8,Q6,Q7,Z1,Zde,Zdh,Zdj,Zdt,Zdx,Zdz,Zea,Zeb,Zep,decide_true,decide_false,Q5,Q1,Q3,if_true,Nat.reduceAdd,Nat.reduceLeDiff,eq_self,and_self,aload,acells,getArr,part,astore,putCells,get_new,set_new,List.all_cons,List.all_nil,cellOk,Bool.and_self,Z0,Z2,Q9,Z4,Z3,Q2,Q4,Q0,h3',ix_map eLevel _ 2 _ g.levels _ i h3 rfl,q1,q2,e,hw,e']
def sizeT : List LevelD → Nat
 | [] => 0
 | l :: r => l.terms.length + sizeT r
theorem sizeT_le : ∀ (l : List LevelD) (x : LevelD), x ∈ l → x.terms.length ≤ sizeT l
 | a :: r, x, h => by
  rcases List.mem_cons.1 h with rfl | h
  ·simp [sizeT]
  ·have := sizeT_le r x h; simp [sizeT]; omega
theorem f_Right (g : GramD) (hg : g.Ok) (H : AHeap) : lim G0.cfg (.func 33) [.agg (eGram g)] H = some (.int .i64 (gramErr g), H) := by
 refine lim_flat rfl rfl P_grammar_Right (g.rules.length + g.levels.length + sizeT g.levels + 1) (fun h => fz_1 (fz_gram g h)) ?_ (fun _ => rfl) H
 obtain ⟨N, hN⟩ : ∃ N, N = g.rules.length + g.levels.length + sizeT g.levels + 1 := ⟨_, rfl⟩
 rw [← hN]
 have c1 := f_counts g hg
 have c2 := f_twice g.terms hg.terms
 have c3 := f_twice g.nonterms hg.nonterms
 rw [R_grammar_Right]
 unfold gramErr
 cases q1 : countsOk g
 case false =>
  rw [q1] at c1
  simp only [Zab,Zac,Zad,Zae,Zai,Zaj,Zak,Zam,Zao,Zar,Zay,Zaz,Zbi,Zbk,Zbn,Zbo,Zbr,Zcp,Zcq,Zcs,Zcu,Zcv,Zcw,Zcx,Zcz,Zda,Q0,Q8,Q6,Q7,Z1,Z9,Zdr,Zea,Zeb,Bool.not_false,Q5,Q1,Q3,if_true,Nat.reduceAdd,Nat.reduceSub,Nat.reduceLeDiff,eq_self,true_and,Q1,Q3,Z5,Z6,Q2,Q4,aload,acells,getArr,part,Z0,Q9,Z3,Q2,Q4,Q0,c1,resAll,resVals,resVal,Z7,Prod.mk.injEq,true_and,exists_eq']
 case true =>
 rw [q1] at c1
 cases q2 : twiceB g.terms
 case true =>
  rw [q2] at c2
  simp only [Zab,Zac,Zad,Zae,Zai,Zaj,Zak,Zam,Zao,Zar,Zas,Zay,Zaz,Zbd,Zbg,Zbi,Zbj,Zbk,Zbl,Zbn,Zbo,Zbr,Zby,Zcp,Zcq,Zcs,Zcu,Zcv,Zcw,Zcx,Zcz,Zda,Q0,Q8,Q6,Q7,Z1,Z9,Zdr,Zdx,Zdz,Zea,Zeb,Y1,Q5,Q1,Q3,if_true,if_false,Nat.reduceAdd,Nat.reduceSub,Nat.reduceLeDiff,eq_self,true_and,Q1,Q3,Z5,Z6,Q2,Q4,aload,acells,getArr,part,Z0,Q9,Z4,Z3,Q2,Q4,Q0,c1,c2,resAll,resVals,resVal,Z7,Prod.mk.injEq,true_and,exists_eq',Z8,true_or]
 case false =>
 rw [q2] at c2
 cases q3 : twiceB g.nonterms
 case true =>
  rw [q3] at c3
  simp only [Zab,Zac,Zad,Zae,Zai,Zaj,Zak,Zam,Zao,Zar,Zas,Zay,Zaz,Zbc,Zbh,Zbi,Zbj,Zbk,Zbl,Zbn,Zbo,Zbr,Zby,Zcp,Zcq,Zcs,Zcu,Zcv,Zcw,Zcx,Zcz,Zda,Q0,Q8,Q6,Q7,Z1,Z9,Zdr,Zdx,Zdz,Zea,Zeb,Y1,Q5,Q1,Q3,if_true,if_false,Nat.reduceAdd,Nat.reduceSub,Nat.reduceLeDiff,eq_self,true_and,Q1,Q3,Z5,Z6,Q2,Q4,aload,acells,getArr,part,Z0,Z2,Q9,Z4,Z3,Q2,Q4,Q0,c1,c2,c3,resAll,resVals,resVal,Z7,Prod.mk.injEq,true_and,exists_eq',Z8,or_true]
 case false =>
 rw [q3] at c3
 have hne : g.rules ≠ [] := by
  intro e
  simp [countsOk, e] at q1
 have c4 := f_start g hg hne
 cases q4 : startOk g
 case false =>
  rw [q4] at c4
  simp only [Zab,Zac,Zad,Zae,Zai,Zaj,Zak,Zam,Zao,Zar,Zas,Zay,Zaz,Zbc,Zbh,Zbi,Zbj,Zbk,Zbl,Zbn,Zbo,Zbr,Zby,Zcp,Zcq,Zcs,Zcu,Zcv,Zcw,Zcx,Zcz,Zda,Q0,Q8,Q6,Q7,Z1,Z9,Zdr,Zdx,Zdz,Zea,Zeb,Y1,Bool.not_false,Q5,Q1,Q3,if_true,if_false,Nat.reduceAdd,Nat.reduceSub,Nat.reduceLeDiff,eq_self,true_and,Q1,Q3,Z5,Z6,Q2,Q4,aload,acells,getArr,part,Z0,Z2,Q9,Z4,Z3,Q2,Q4,Q0,c1,c2,c3,c4,resAll,resVals,resVal,Z7,Prod.mk.injEq,true_and,exists_eq',Z8,Y2,or_self]
 case true =>
 rw [q4] at c4
 obtain ⟨h', hb', e⟩ := f_right_loop0 g hg N g.rules.length 0 N 0 [.arr 0 5 true [eGram g]] (by omega) (by omega) rfl
 rw [Z0, z0] at e
 by_cases q5 : rulesErr g g.rules 0 = 0
 case neg =>
  rw [if_neg q5] at e
  simp only [Zaa,Zab,Zac,Zad,Zae,Zaf,Zag,Zaj,Zak,Zam,Zan,Zao,Zas,Zat,Zay,Zaz,Zbc,Zbh,Zbi,Zbj,Zbk,Zbl,Zbn,Zbo,Zbr,Zby,Zcg,Zcp,Zcq,Zcs,Zcu,Zcv,Zcw,Zcx,Zcz,Zda,Zdb,Zdc,Zdd,Q0,Q8,Q6,Q7,Z1,Z9,Zdr,Zdt,Zdx,Zdz,Zea,Zeb,Y1,Q5,Q1,Q3,if_true,if_false,Nat.reduceAdd,Nat.reduceSub,Nat.reduceLeDiff,eq_self,true_and,not_false_eq_true,Y0,Q1,Q3,Z5,Z6,Q2,Q4,aload,acells,getArr,part,Z0,Z2,Q9,Z4,Z3,Q2,Q4,Q0,Y0,c1,c2,c3,c4,e,q5,ne_eq,not_false_eq_true,resAll,resVals,resVal,Z7,Prod.mk.injEq,true_and,exists_eq',Z8,Y2,or_self]
 case pos =>
 rw [if_pos q5] at e
 have hlen : h'.length ≠ 0 := by
  have := (List.getElem?_eq_some_iff.1 hb').1; omega
 have hb2 := get_app hb' [.map []]
 obtain ⟨h'', e2⟩ := f_right_loop1 g hg N (fun l hl => by have := sizeT_le g.levels l hl; omega) h'.length hlen g.levels.length 0 N [] [] (h' ++ [.map []]) (by omega) (by omega) (fun t => rfl) hb2 (get_new h' _)
 rw [Z0, z0] at e2
 cases q6 : levelsGo g.terms.length g.levels []
 case false =>
  rw [q6] at e2
  simp only [cond_false] at e2
  simp only [Zaa,Zab,Zac,Zad,Zae,Zaf,Zag,Zaj,Zak,Zam,Zan,Zao,Zap,Zas,Zat,Zay,Zaz,Zbc,Zbh,Zbi,Zbj,Zbk,Zbl,Zbn,Zbo,Zbr,Zbu,Zby,Zcg,Zcp,Zcq,Zcs,Zcu,Zcv,Zcw,Zcx,Zcz,Zda,Zdb,Zdc,Zdd,Q0,Q8,Q6,Q7,Z1,Z9,Zdr,Zdt,Zdx,Zdz,Zea,Zeb,Y1,Q5,Q1,Q3,if_true,if_false,Nat.reduceAdd,Nat.reduceSub,Nat.reduceLeDiff,eq_self,true_and,not_true_eq_false,Y0,Q1,Q3,Z5,Z6,Q2,Q4,aload,acells,getArr,part,Z0,Z2,Q9,Z4,Z3,Q2,Q4,Q0,Y0,c1,c2,c3,c4,e,q5,hb2,e2,ne_eq,resAll,resVals,resVal,Z7,Prod.mk.injEq,true_and,exists_eq',Z8,Y2,or_self]
 case true =>
  rw [q6] at e2
  simp only [cond_true] at e2
  simp only [Zaa,Zab,Zac,Zad,Zae,Zaf,Zag,Zai,Zaj,Zak,Zan,Zap,Zas,Zat,Zay,Zaz,Zbc,Zbh,Zbi,Zbj,Zbk,Zbl,Zbn,Zbo,Zbr,Zbu,Zby,Zcg,Zcp,Zcq,Zcs,Zcu,Zcv,Zcw,Zcx,Zcz,Zda,Zdb,Zdc,Zdd,Q0,Q8,Q6,Q7,Z1,Z9,Zdr,Zdt,Zdx,Zdz,Zea,Zeb,Y1,Q5,Q1,Q3,if_true,if_false,Nat.reduceAdd,Nat.reduceSub,Nat.reduceLeDiff,eq_self,true_and,not_true_eq_false,Y0,Q1,Q3,Z5,Z6,Q2,Q4,aload,acells,getArr,part,Z0,Z2,Q9,Z4,Z3,Q2,Q4,Q0,Y0,c1,c2,c3,c4,e,q5,hb2,e2,ne_eq,resAll,resVals,resVal,Z7,Prod.mk.injEq,true_and,exists_eq',Z8,Y2,or_self]
end Go.Proofs.Ytkimloceaihplaa.Ai
