/- slices.IndexFunc, slices.ContainsFunc, walked for the kinds of elements that are met. By program (mk_gr.py). -/
import Derived.Test.YtkimloceaihplaapFn
import Derived.Test.YtkimloceaihplaapGr1
namespace Go.Proofs.Ytkimloceaihplaa.Ai
open Go Go.Proofs
set_option linter.unusedVariables false
set_option linter.unusedSimpArgs false
set_option maxRecDepth 10000

def ixGo {α : Type} (p : α → Bool) : List α → Nat → Option Nat
  | [], _ => none
  | x :: l, j => if p x then some j else ixGo p l (j + 1)
def ixInt : Option Nat → Int
  | some j => j
  | none => -1
theorem ixGo_any {α : Type} (p : α → Bool) : ∀ (l : List α) (j : Nat), decide ((0 : Int) ≤ ixInt (ixGo p l j)) = l.any p
  | [], j => by simp [ixGo, ixInt]
  | x :: l, j => by
    by_cases h : p x = true
    · simp [ixGo, h, ixInt]
    · simpa [ixGo, h] using ixGo_any p l (j + 1)
theorem ixGo_bound {α : Type} (p : α → Bool) : ∀ (l : List α) (j k : Nat), ixGo p l j = some k → j ≤ k ∧ k < j + l.length ∧ ∃ x, l[k - j]? = some x ∧ p x = true
  | [], j, k, h => by simp [ixGo] at h
  | x :: l, j, k, h => by
    simp only [ixGo] at h
    split at h
    · rename_i hp
      cases h
      refine ⟨Nat.le_refl _, by simp, x, by simp, hp⟩
    · obtain ⟨h1, h2, y, h3, h4⟩ := ixGo_bound p l (j + 1) k h
      refine ⟨by omega, by simp; omega, y, ?_, h4⟩
      obtain ⟨d, hd⟩ : ∃ d, k - j = d + 1 := ⟨k - j - 1, by omega⟩
      rw [hd]
      simpa [show k - (j + 1) = d by omega] using h3

theorem f_IndexFunc_sint_int_loop {l : List Int} {g : Nat} {caps : List AV} {p : Int → Bool} (hp : ∀ x ∈ l, ∀ H, lim G0.cfg (.func g) ([.int .i64 x] ++ caps) H = some (.bool (p x), H)) (hm : l.length ≤ maxLen) (h : AHeap) (n : Nat) : ∀ (d i m : Nat), l.length = i + d → d < m →
    loopN (evalCode (lim G0.cfg) n B_slices_IndexFunc_sint_int_0) m ⟨[.vsl false (l.map eI), .fn (.func g) [] caps, .junk,.junk,.junk,.junk,.junk, .int .i64 l.length, .int .i64 i, .junk,.junk,.junk,.junk,.junk,.junk,.junk,.junk,.junk,.junk], h⟩ =
      match ixGo p (l.drop i) i with
      | none => some (.exit 0, ⟨[.junk,.junk,.junk,.junk,.junk,.junk,.junk,.junk,.junk,.junk,.junk,.junk,.junk,.junk,.junk,.junk,.junk,.junk,.junk], h⟩)
      | some j => some (.ret, ⟨[.junk,.junk,.junk,.junk, .int .i64 j, .junk,.junk,.junk,.junk,.junk,.junk,.junk,.junk,.junk,.junk,.junk,.junk,.junk,.junk], h⟩) := by
  rw [maxLen_eq] at hm
  intro d
  induction d with
  | zero =>
    intro i m h1 h2
    obtain ⟨m, rfl⟩ : ∃ q, m = q + 1 := ⟨m - 1, by omega⟩
    have e1 : l.drop i = [] := List.drop_eq_nil_iff.2 (by omega)
    have h3 : ¬ ((i : Int) < l.length) := by omega
    simp only [loop_e,EB_slices_IndexFunc_sint_int_0,Zab,Zac,Zad,Zag,Zah,Zaj,Zak,Zal,Zas,Zav,Zay,Zbi,Zbq,Zcu,Zcw,Zdb,Zdc,List.set_cons_zero,List.set_cons_succ,List.getD_cons_zero,List.getD_cons_succ,Zdg,decide_false,eq_self,h3,e1,ixGo]
  | succ d ih =>
    intro i m h1 h2
    obtain ⟨m, rfl⟩ : ∃ q, m = q + 1 := ⟨m - 1, by omega⟩
    have h3 : i < l.length := by omega
    have h3' : (i : Int) < l.length := by omega
    have e1 : l.drop i = l[i] :: l.drop (i + 1) := List.drop_eq_getElem_cons h3
    have hw := w64s (n := i) (by omega)
    have hc := hp l[i] (List.getElem_mem h3)
    simp only [List.cons_append,List.nil_append] at hc
    simp only [loop_e,EB_slices_IndexFunc_sint_int_0,Zaa,Zab,Zac,Zad,Zae,Zak,Zar,Zay,Zaz,Zbi,Zbk,Zbo,Zbq,Zcb,Zco,Zcp,Zcu,Zcw,Zcy,Zcz,List.set_cons_zero,List.set_cons_succ,List.getD_cons_zero,List.getD_cons_succ,Zdg,Zem,decide_true,Zem,h3',e1,ix_map eI _ 1 _ l _ i h3 rfl,hc,List.cons_append,List.nil_append,ixGo]
    cases hpx : p l[i]
    · simp only [hw,Zaa,Zab,Zag,Zaj,Zak,Zan,Zas,Zau,Zay,Zbi,Zbk,Zbq,Zcu,Zcv,Zcw,Zda,Zdb,Zdc,List.set_cons_zero,List.set_cons_succ,List.getD_cons_zero,List.getD_cons_succ,Zdd,if_false,Bool.false_eq_true]
      exact ih (i + 1) m (by omega) (by omega)
    · simp only [Zab,Zac,Zag,Zai,Zaj,Zak,Zam,Zao,Zar,Zaw,Zbi,Zbk,Zcu,Zcw,Zda,Zdb,Zdc,List.set_cons_zero,List.set_cons_succ,List.getD_cons_zero,List.getD_cons_succ,if_true,eq_self]

theorem f_IndexFunc_sint_int {l : List Int} {g : Nat} {caps : List AV} {p : Int → Bool} (hp : ∀ x ∈ l, ∀ H, lim G0.cfg (.func g) ([.int .i64 x] ++ caps) H = some (.bool (p x), H)) (hm : l.length ≤ maxLen) (hcp : ∀ h, mapO (freeze h 999) caps = some (caps.map fun x => (x, true))) (H : AHeap) :
    lim G0.cfg (.func 78) [.vsl false (l.map eI), .fn (.func g) [] caps] H = some (.int .i64 (ixInt (ixGo p l 0)), H) := by
  refine lim_flat rfl rfl P_slices_IndexFunc_sint_int (l.length + 1) (fun h => fz_2 rfl (fz_fn 999 (hcp h))) ?_ (fun _ => rfl) H
  have hl := f_IndexFunc_sint_int_loop hp hm [] (l.length + 1) l.length 0 (l.length + 1) (by omega) (by omega)
  rw [List.drop_zero, z0] at hl
  rw [R_slices_IndexFunc_sint_int]
  cases he : ixGo p l 0 <;> simp only [he] at hl <;> simp only [Zab,Zac,Zae,Zaf,Zag,Zai,Zaj,Zak,Zam,Zao,Zap,Zat,Zay,Zbi,Zbk,Zcg,Zct,Zcu,Zcv,Zcw,Zda,Zdb,Zdc,List.set_cons_zero,List.set_cons_succ,List.getD_cons_zero,List.getD_cons_succ,Option.map_some,Zds,List.length_cons,List.length_nil,Nat.reduceAdd,Nat.reduceSub,Int.reduceNeg,eq_self,true_and,List.length_map,List.length_cons,List.length_nil,List.replicate_succ,List.replicate_zero,List.cons_append,List.nil_append,List.length_map,hl,resAll,resVals,resVal,Option.some.injEq,Prod.mk.injEq,true_and,exists_eq',ixInt]

theorem f_ContainsFunc_sint_int_run {l : List Int} {g : Nat} {caps : List AV} {p : Int → Bool} (hp : ∀ x ∈ l, ∀ H, lim G0.cfg (.func g) ([.int .i64 x] ++ caps) H = some (.bool (p x), H)) (hm : l.length ≤ maxLen) (hcp : ∀ h, mapO (freeze h 999) caps = some (caps.map fun x => (x, true))) :
    ∃ h', runFn (lim G0.cfg) 1 A_slices_ContainsFunc_sint_int [.vsl false (l.map eI), .fn (.func g) [] caps] [] = some (.bool (l.any p), h') := by
  rw [R_slices_ContainsFunc_sint_int]
  simp only [Zab,Zac,Zai,Zaj,Zak,Zay,Zaz,Zbi,Zbk,Zbq,Zco,Zcp,Zct,Zcu,Zcv,Zcw,Zcy,Zcz,List.set_cons_zero,List.set_cons_succ,List.getD_cons_zero,List.getD_cons_succ,Option.map_some,Zdj,List.length_cons,List.length_nil,Nat.reduceAdd,Nat.reduceSub,eq_self,true_and,List.length_cons,List.length_nil,List.replicate_succ,List.replicate_zero,List.cons_append,List.nil_append,f_IndexFunc_sint_int hp hm hcp,ixGo_any,resAll,resVals,resVal,Option.some.injEq,Prod.mk.injEq,true_and,exists_eq']

theorem f_ContainsFunc_sint_int {l : List Int} {g : Nat} {caps caps' : List AV} {bs : List (AV × Bool)} {p : Int → Bool} {H : AHeap} (hf : mapO (freeze H 999) caps = some bs) (hbs : bs.map (·.1) = caps') (hp : ∀ x ∈ l, ∀ H, lim G0.cfg (.func g) ([.int .i64 x] ++ caps') H = some (.bool (p x), H)) (hm : l.length ≤ maxLen)
    (hcp : ∀ h, mapO (freeze h 999) caps' = some (caps'.map fun x => (x, true))) : lim G0.cfg (.func 43) [.vsl false (l.map eI), .fn (.func g) [] caps] H = some (.bool (l.any p), H) := by
  obtain ⟨h', hr⟩ := f_ContainsFunc_sint_int_run hp hm hcp
  subst hbs
  have h1 : mapO (freeze H 1000) [.vsl false (l.map eI), .fn (.func g) [] caps] = some [(.vsl false (l.map eI), true), (.fn (.func g) [] (bs.map (·.1)), bs.all (·.2))] := mapO_2 (fz_vsl _ _ _) (fz_fnc60 hf)
  exact lim_fz rfl rfl P_slices_ContainsFunc_sint_int 1 h1 hr (rfl : freeze h' 1000 (.bool (l.any p)) = some (.bool (l.any p), true)) (Bool.or_true _)

theorem f_IndexFunc_sOrigin_Origin_loop {l : List Int} {g : Nat} {caps : List AV} {p : Int → Bool} (hp : ∀ x ∈ l, ∀ H, lim G0.cfg (.func g) ([.int .i64 x] ++ caps) H = some (.bool (p x), H)) (hm : l.length ≤ maxLen) (h : AHeap) (n : Nat) : ∀ (d i m : Nat), l.length = i + d → d < m →
    loopN (evalCode (lim G0.cfg) n B_slices_IndexFunc_sOrigin_Origin_0) m ⟨[.vsl false (l.map eI), .fn (.func g) [] caps, .junk,.junk,.junk,.junk,.junk, .int .i64 l.length, .int .i64 i, .junk,.junk,.junk,.junk,.junk,.junk,.junk,.junk,.junk,.junk], h⟩ =
      match ixGo p (l.drop i) i with
      | none => some (.exit 0, ⟨[.junk,.junk,.junk,.junk,.junk,.junk,.junk,.junk,.junk,.junk,.junk,.junk,.junk,.junk,.junk,.junk,.junk,.junk,.junk], h⟩)
      | some j => some (.ret, ⟨[.junk,.junk,.junk,.junk, .int .i64 j, .junk,.junk,.junk,.junk,.junk,.junk,.junk,.junk,.junk,.junk,.junk,.junk,.junk,.junk], h⟩) := by
  rw [maxLen_eq] at hm
  intro d
  induction d with
  | zero =>
    intro i m h1 h2
    obtain ⟨m, rfl⟩ : ∃ q, m = q + 1 := ⟨m - 1, by omega⟩
    have e1 : l.drop i = [] := List.drop_eq_nil_iff.2 (by omega)
    have h3 : ¬ ((i : Int) < l.length) := by omega
    simp only [loop_e,EB_slices_IndexFunc_sOrigin_Origin_0,Zab,Zac,Zad,Zag,Zah,Zaj,Zak,Zal,Zas,Zav,Zay,Zbi,Zbq,Zcu,Zcw,Zdb,Zdc,List.set_cons_zero,List.set_cons_succ,List.getD_cons_zero,List.getD_cons_succ,Zdg,decide_false,eq_self,h3,e1,ixGo]
  | succ d ih =>
    intro i m h1 h2
    obtain ⟨m, rfl⟩ : ∃ q, m = q + 1 := ⟨m - 1, by omega⟩
    have h3 : i < l.length := by omega
    have h3' : (i : Int) < l.length := by omega
    have e1 : l.drop i = l[i] :: l.drop (i + 1) := List.drop_eq_getElem_cons h3
    have hw := w64s (n := i) (by omega)
    have hc := hp l[i] (List.getElem_mem h3)
    simp only [List.cons_append,List.nil_append] at hc
    simp only [loop_e,EB_slices_IndexFunc_sOrigin_Origin_0,Zaa,Zab,Zac,Zad,Zae,Zak,Zar,Zay,Zaz,Zbi,Zbk,Zbo,Zbq,Zcb,Zco,Zcp,Zcu,Zcw,Zcy,Zcz,List.set_cons_zero,List.set_cons_succ,List.getD_cons_zero,List.getD_cons_succ,Zdg,Zem,decide_true,Zem,h3',e1,ix_map eI _ 1 _ l _ i h3 rfl,hc,List.cons_append,List.nil_append,ixGo]
    cases hpx : p l[i]
    · simp only [hw,Zaa,Zab,Zag,Zaj,Zak,Zan,Zas,Zau,Zay,Zbi,Zbk,Zbq,Zcu,Zcv,Zcw,Zda,Zdb,Zdc,List.set_cons_zero,List.set_cons_succ,List.getD_cons_zero,List.getD_cons_succ,Zdd,if_false,Bool.false_eq_true]
      exact ih (i + 1) m (by omega) (by omega)
    · simp only [Zab,Zac,Zag,Zai,Zaj,Zak,Zam,Zao,Zar,Zaw,Zbi,Zbk,Zcu,Zcw,Zda,Zdb,Zdc,List.set_cons_zero,List.set_cons_succ,List.getD_cons_zero,List.getD_cons_succ,if_true,eq_self]

theorem f_IndexFunc_sOrigin_Origin {l : List Int} {g : Nat} {caps : List AV} {p : Int → Bool} (hp : ∀ x ∈ l, ∀ H, lim G0.cfg (.func g) ([.int .i64 x] ++ caps) H = some (.bool (p x), H)) (hm : l.length ≤ maxLen) (hcp : ∀ h, mapO (freeze h 999) caps = some (caps.map fun x => (x, true))) (H : AHeap) :
    lim G0.cfg (.func 87) [.vsl false (l.map eI), .fn (.func g) [] caps] H = some (.int .i64 (ixInt (ixGo p l 0)), H) := by
  refine lim_flat rfl rfl P_slices_IndexFunc_sOrigin_Origin (l.length + 1) (fun h => fz_2 rfl (fz_fn 999 (hcp h))) ?_ (fun _ => rfl) H
  have hl := f_IndexFunc_sOrigin_Origin_loop hp hm [] (l.length + 1) l.length 0 (l.length + 1) (by omega) (by omega)
  rw [List.drop_zero, z0] at hl
  rw [R_slices_IndexFunc_sOrigin_Origin]
  cases he : ixGo p l 0 <;> simp only [he] at hl <;> simp only [Zab,Zac,Zae,Zaf,Zag,Zai,Zaj,Zak,Zam,Zao,Zap,Zat,Zay,Zbi,Zbk,Zcg,Zct,Zcu,Zcv,Zcw,Zda,Zdb,Zdc,List.set_cons_zero,List.set_cons_succ,List.getD_cons_zero,List.getD_cons_succ,Option.map_some,Zds,List.length_cons,List.length_nil,Nat.reduceAdd,Nat.reduceSub,Int.reduceNeg,eq_self,true_and,List.length_map,List.length_cons,List.length_nil,List.replicate_succ,List.replicate_zero,List.cons_append,List.nil_append,List.length_map,hl,resAll,resVals,resVal,Option.some.injEq,Prod.mk.injEq,true_and,exists_eq',ixInt]

theorem f_ContainsFunc_sOrigin_Origin_run {l : List Int} {g : Nat} {caps : List AV} {p : Int → Bool} (hp : ∀ x ∈ l, ∀ H, lim G0.cfg (.func g) ([.int .i64 x] ++ caps) H = some (.bool (p x), H)) (hm : l.length ≤ maxLen) (hcp : ∀ h, mapO (freeze h 999) caps = some (caps.map fun x => (x, true))) :
    ∃ h', runFn (lim G0.cfg) 1 A_slices_ContainsFunc_sOrigin_Origin [.vsl false (l.map eI), .fn (.func g) [] caps] [] = some (.bool (l.any p), h') := by
  rw [R_slices_ContainsFunc_sOrigin_Origin]
  simp only [Zab,Zac,Zai,Zaj,Zak,Zay,Zaz,Zbi,Zbk,Zbq,Zco,Zcp,Zct,Zcu,Zcv,Zcw,Zcy,Zcz,List.set_cons_zero,List.set_cons_succ,List.getD_cons_zero,List.getD_cons_succ,Option.map_some,Zdj,List.length_cons,List.length_nil,Nat.reduceAdd,Nat.reduceSub,eq_self,true_and,List.length_cons,List.length_nil,List.replicate_succ,List.replicate_zero,List.cons_append,List.nil_append,f_IndexFunc_sOrigin_Origin hp hm hcp,ixGo_any,resAll,resVals,resVal,Option.some.injEq,Prod.mk.injEq,true_and,exists_eq']

theorem f_ContainsFunc_sOrigin_Origin {l : List Int} {g : Nat} {caps caps' : List AV} {bs : List (AV × Bool)} {p : Int → Bool} {H : AHeap} (hf : mapO (freeze H 999) caps = some bs) (hbs : bs.map (·.1) = caps') (hp : ∀ x ∈ l, ∀ H, lim G0.cfg (.func g) ([.int .i64 x] ++ caps') H = some (.bool (p x), H)) (hm : l.length ≤ maxLen)
    (hcp : ∀ h, mapO (freeze h 999) caps' = some (caps'.map fun x => (x, true))) : lim G0.cfg (.func 82) [.vsl false (l.map eI), .fn (.func g) [] caps] H = some (.bool (l.any p), H) := by
  obtain ⟨h', hr⟩ := f_ContainsFunc_sOrigin_Origin_run hp hm hcp
  subst hbs
  have h1 : mapO (freeze H 1000) [.vsl false (l.map eI), .fn (.func g) [] caps] = some [(.vsl false (l.map eI), true), (.fn (.func g) [] (bs.map (·.1)), bs.all (·.2))] := mapO_2 (fz_vsl _ _ _) (fz_fnc60 hf)
  exact lim_fz rfl rfl P_slices_ContainsFunc_sOrigin_Origin 1 h1 hr (rfl : freeze h' 1000 (.bool (l.any p)) = some (.bool (l.any p), true)) (Bool.or_true _)

theorem f_IndexFunc_sRule_Rule_loop {l : List RuleD} {g : Nat} {caps : List AV} {p : RuleD → Bool} (hp : ∀ x ∈ l, ∀ H, lim G0.cfg (.func g) ([.agg (eRule x)] ++ caps) H = some (.bool (p x), H)) (hm : l.length ≤ maxLen) (h : AHeap) (n : Nat) : ∀ (d i m : Nat), l.length = i + d → d < m →
    loopN (evalCode (lim G0.cfg) n B_slices_IndexFunc_sRule_Rule_0) m ⟨[.vsl false (l.map eRule), .fn (.func g) [] caps, .junk,.junk,.junk,.junk,.junk, .int .i64 l.length, .int .i64 i, .junk,.junk,.junk,.junk,.junk,.junk,.junk,.junk,.junk,.junk], h⟩ =
      match ixGo p (l.drop i) i with
      | none => some (.exit 0, ⟨[.junk,.junk,.junk,.junk,.junk,.junk,.junk,.junk,.junk,.junk,.junk,.junk,.junk,.junk,.junk,.junk,.junk,.junk,.junk], h⟩)
      | some j => some (.ret, ⟨[.junk,.junk,.junk,.junk, .int .i64 j, .junk,.junk,.junk,.junk,.junk,.junk,.junk,.junk,.junk,.junk,.junk,.junk,.junk,.junk], h⟩) := by
  rw [maxLen_eq] at hm
  intro d
  induction d with
  | zero =>
    intro i m h1 h2
    obtain ⟨m, rfl⟩ : ∃ q, m = q + 1 := ⟨m - 1, by omega⟩
    have e1 : l.drop i = [] := List.drop_eq_nil_iff.2 (by omega)
    have h3 : ¬ ((i : Int) < l.length) := by omega
    simp only [loop_e,EB_slices_IndexFunc_sRule_Rule_0,Zab,Zac,Zad,Zag,Zah,Zaj,Zak,Zal,Zas,Zav,Zay,Zbi,Zbq,Zcu,Zcw,Zdb,Zdc,List.set_cons_zero,List.set_cons_succ,List.getD_cons_zero,List.getD_cons_succ,Zdg,decide_false,eq_self,h3,e1,ixGo]
  | succ d ih =>
    intro i m h1 h2
    obtain ⟨m, rfl⟩ : ∃ q, m = q + 1 := ⟨m - 1, by omega⟩
    have h3 : i < l.length := by omega
    have h3' : (i : Int) < l.length := by omega
    have e1 : l.drop i = l[i] :: l.drop (i + 1) := List.drop_eq_getElem_cons h3
    have hw := w64s (n := i) (by omega)
    have hc := hp l[i] (List.getElem_mem h3)
    simp only [List.cons_append,List.nil_append] at hc
    simp only [loop_e,EB_slices_IndexFunc_sRule_Rule_0,Zaa,Zab,Zac,Zad,Zae,Zak,Zar,Zay,Zaz,Zbi,Zbk,Zbo,Zbq,Zcb,Zco,Zcp,Zcu,Zcw,Zcy,Zcz,List.set_cons_zero,List.set_cons_succ,List.getD_cons_zero,List.getD_cons_succ,Option.bind_some,Zdg,Zdz,decide_true,List.length_cons,List.length_nil,if_true,Nat.reduceAdd,Nat.reduceLeDiff,ld_v,part,List.drop_zero,List.take_succ_cons,List.take_zero,h3',e1,ix_map eRule _ 5 _ l _ i h3 rfl,hc,List.cons_append,List.nil_append,ixGo]
    cases hpx : p l[i]
    · simp only [hw,Zaa,Zab,Zag,Zaj,Zak,Zan,Zas,Zau,Zay,Zbi,Zbk,Zbq,Zcu,Zcv,Zcw,Zda,Zdb,Zdc,List.set_cons_zero,List.set_cons_succ,List.getD_cons_zero,List.getD_cons_succ,Zdd,if_false,Bool.false_eq_true]
      exact ih (i + 1) m (by omega) (by omega)
    · simp only [Zab,Zac,Zag,Zai,Zaj,Zak,Zam,Zao,Zar,Zaw,Zbi,Zbk,Zcu,Zcw,Zda,Zdb,Zdc,List.set_cons_zero,List.set_cons_succ,List.getD_cons_zero,List.getD_cons_succ,if_true,eq_self]

theorem f_IndexFunc_sRule_Rule {l : List RuleD} {g : Nat} {caps : List AV} {p : RuleD → Bool} (hp : ∀ x ∈ l, ∀ H, lim G0.cfg (.func g) ([.agg (eRule x)] ++ caps) H = some (.bool (p x), H)) (hm : l.length ≤ maxLen) (hcp : ∀ h, mapO (freeze h 999) caps = some (caps.map fun x => (x, true))) (H : AHeap) :
    lim G0.cfg (.func 54) [.vsl false (l.map eRule), .fn (.func g) [] caps] H = some (.int .i64 (ixInt (ixGo p l 0)), H) := by
  refine lim_flat rfl rfl P_slices_IndexFunc_sRule_Rule (l.length + 1) (fun h => fz_2 rfl (fz_fn 999 (hcp h))) ?_ (fun _ => rfl) H
  have hl := f_IndexFunc_sRule_Rule_loop hp hm [] (l.length + 1) l.length 0 (l.length + 1) (by omega) (by omega)
  rw [List.drop_zero, z0] at hl
  rw [R_slices_IndexFunc_sRule_Rule]
  cases he : ixGo p l 0 <;> simp only [he] at hl <;> simp only [Zab,Zac,Zae,Zaf,Zag,Zai,Zaj,Zak,Zam,Zao,Zap,Zat,Zay,Zbi,Zbk,Zcg,Zct,Zcu,Zcv,Zcw,Zda,Zdb,Zdc,List.set_cons_zero,List.set_cons_succ,List.getD_cons_zero,List.getD_cons_succ,Option.map_some,Zds,List.length_cons,List.length_nil,Nat.reduceAdd,Nat.reduceSub,Int.reduceNeg,eq_self,true_and,List.length_map,List.length_cons,List.length_nil,List.replicate_succ,List.replicate_zero,List.cons_append,List.nil_append,List.length_map,hl,resAll,resVals,resVal,Option.some.injEq,Prod.mk.injEq,true_and,exists_eq',ixInt]

theorem f_ContainsFunc_sRule_Rule_run {l : List RuleD} {g : Nat} {caps : List AV} {p : RuleD → Bool} (hp : ∀ x ∈ l, ∀ H, lim G0.cfg (.func g) ([.agg (eRule x)] ++ caps) H = some (.bool (p x), H)) (hm : l.length ≤ maxLen) (hcp : ∀ h, mapO (freeze h 999) caps = some (caps.map fun x => (x, true))) :
    ∃ h', runFn (lim G0.cfg) 1 A_slices_ContainsFunc_sRule_Rule [.vsl false (l.map eRule), .fn (.func g) [] caps] [] = some (.bool (l.any p), h') := by
  rw [R_slices_ContainsFunc_sRule_Rule]
  simp only [Zab,Zac,Zai,Zaj,Zak,Zay,Zaz,Zbi,Zbk,Zbq,Zco,Zcp,Zct,Zcu,Zcv,Zcw,Zcy,Zcz,List.set_cons_zero,List.set_cons_succ,List.getD_cons_zero,List.getD_cons_succ,Option.map_some,Zdj,List.length_cons,List.length_nil,Nat.reduceAdd,Nat.reduceSub,eq_self,true_and,List.length_cons,List.length_nil,List.replicate_succ,List.replicate_zero,List.cons_append,List.nil_append,f_IndexFunc_sRule_Rule hp hm hcp,ixGo_any,resAll,resVals,resVal,Option.some.injEq,Prod.mk.injEq,true_and,exists_eq']

theorem f_ContainsFunc_sRule_Rule {l : List RuleD} {g : Nat} {caps caps' : List AV} {bs : List (AV × Bool)} {p : RuleD → Bool} {H : AHeap} (hf : mapO (freeze H 999) caps = some bs) (hbs : bs.map (·.1) = caps') (hp : ∀ x ∈ l, ∀ H, lim G0.cfg (.func g) ([.agg (eRule x)] ++ caps') H = some (.bool (p x), H)) (hm : l.length ≤ maxLen)
    (hcp : ∀ h, mapO (freeze h 999) caps' = some (caps'.map fun x => (x, true))) : lim G0.cfg (.func 84) [.vsl false (l.map eRule), .fn (.func g) [] caps] H = some (.bool (l.any p), H) := by
  obtain ⟨h', hr⟩ := f_ContainsFunc_sRule_Rule_run hp hm hcp
  subst hbs
  have h1 : mapO (freeze H 1000) [.vsl false (l.map eRule), .fn (.func g) [] caps] = some [(.vsl false (l.map eRule), true), (.fn (.func g) [] (bs.map (·.1)), bs.all (·.2))] := mapO_2 (fz_vsl _ _ _) (fz_fnc60 hf)
  exact lim_fz rfl rfl P_slices_ContainsFunc_sRule_Rule 1 h1 hr (rfl : freeze h' 1000 (.bool (l.any p)) = some (.bool (l.any p), true)) (Bool.or_true _)

end Go.Proofs.Ytkimloceaihplaa.Ai
