/- slices.Reverse, Equal, ContainsFunc on lists of numbers. -/
import Derived.Test.YtkimloceaihplaapTba
import Derived.Test.YtkimloceaihplaapGrI
import Derived.Test.YtkimloceaihplaapGr4
namespace Go.Proofs.Ytkimloceaihplaa.Ai
open Go Go.Proofs
set_option linter.unusedVariables false
set_option linter.unusedSimpArgs false
set_option maxRecDepth 10000
set_option maxHeartbeats 4000000

theorem ix_hv {h : AHeap} {i ver n : Nat} {sz : Nat} {x : Bool} {rows : List (List AV)} {c : Option Nat} (hi : h[i]? = some (.arr ver sz x rows)) {k : IntKind} {j : Nat} (hj : j < n) : aindexAddr h sz (.hsl i ver 0 n c) (.int k j) = some (.ptr i ver j 0) := by
  have : (0 : Int) ≤ j ∧ (j : Int) < n := by omega
  simp [aindexAddr, getArr, hi, hj]
theorem eIs_get (l : List Int) (j : Nat) (hj : j < l.length) : (eIs l)[j]? = some [.int .i64 l[j]] := by simp [eIs, eI, hj]

theorem f_Rev_loop (i ver n : Nat) (hn : n ≤ 1000000000) (N : Nat) : ∀ (k : Nat) (pre mid post : List Int) (m : Nat) (e : Int) (h : AHeap), mid.length ≤ k → k < m → n = pre.length + mid.length + post.length → e = (pre.length : Int) + mid.length - 1 → h[i]? = some (.arr ver 1 false (eIs (pre ++ mid ++ post))) →
    ∃ h', loopN (evalCode (lim G0.cfg) N B_slices_Reverse_sint_int_0) m ⟨[.hsl i ver 0 n none, .junk, .int .i64 pre.length, .int .i64 e, .junk,.junk,.junk,.junk,.junk,.junk,.junk,.junk,.junk,.junk,.junk,.junk,.junk,.junk,.junk,.junk,.junk,.junk,.junk,.junk,.junk,.junk,.junk,.junk], h⟩ = some (.exit 0, ⟨[.junk,.junk,.junk,.junk,.junk,.junk,.junk,.junk,.junk,.junk,.junk,.junk,.junk,.junk,.junk,.junk,.junk,.junk,.junk,.junk,.junk,.junk,.junk,.junk,.junk,.junk,.junk,.junk], h'⟩) ∧ h'[i]? = some (.arr ver 1 false (eIs (pre ++ mid.reverse ++ post))) ∧ KeepA h h' := by
  intro k
  induction k with
  | zero =>
    intro pre mid post m e h h1 h2 h3 h4 h5
    obtain ⟨m, rfl⟩ : ∃ q, m = q + 1 := ⟨m - 1, by omega⟩
    have hm : mid = [] := List.length_eq_zero_iff.1 (by omega)
    subst hm
    have h6 : ¬ ((pre.length : Int) < e) := by simp only [List.length_nil] at h4; omega
    exact ⟨h, by simp only [loop_e,EB_slices_Reverse_sint_int_0,Zab,Zac,Zad,Zag,Zah,Zaj,Zak,Zal,Zas,Zav,Zay,Zbi,Zbk,Zbq,Zcu,Zcw,Zdb,Zdc,List.set_cons_zero,List.set_cons_succ,List.getD_cons_zero,List.getD_cons_succ,Zdg,decide_false,eq_self,h6], h5, KeepA.refl h⟩
  | succ k ih =>
    intro pre mid post m e h h1 h2 h3 h4 h5
    obtain ⟨m, rfl⟩ : ∃ q, m = q + 1 := ⟨m - 1, by omega⟩
    by_cases h6 : (pre.length : Int) < e
    case neg =>
      refine ⟨h, by simp only [loop_e,EB_slices_Reverse_sint_int_0,Zab,Zac,Zad,Zag,Zah,Zaj,Zak,Zal,Zas,Zav,Zay,Zbi,Zbk,Zbq,Zcu,Zcw,Zdb,Zdc,List.set_cons_zero,List.set_cons_succ,List.getD_cons_zero,List.getD_cons_succ,Zdg,decide_false,eq_self,h6], ?_, KeepA.refl h⟩
      have : mid.reverse = mid := by
        match mid, h4 with
        | [], _ => rfl
        | [x], _ => rfl
        | x :: y :: l, h4 => simp only [List.length_cons] at h4; omega
      rw [this]; exact h5
    case pos =>
      obtain ⟨x, mm, y, rfl⟩ : ∃ x mm y, mid = x :: (mm ++ [y]) := by
        match mid, h4 with
        | [], h4 => simp at h4; omega
        | [x], h4 => simp at h4; omega
        | x :: z :: l, h4 => exact ⟨x, (z :: l).dropLast, (z :: l).getLast (by simp), by rw [List.dropLast_concat_getLast]⟩
      simp only [List.length_cons,List.length_append,List.length_nil] at h1 h3 h4
      obtain ⟨a, ha⟩ : ∃ a, a = pre.length := ⟨_, rfl⟩
      obtain ⟨b, hb⟩ : ∃ b : Nat, b = pre.length + mm.length + 1 := ⟨_, rfl⟩
      have he : e = (b : Int) := by omega
      subst he
      have gA : (eIs (pre ++ x :: (mm ++ [y]) ++ post))[a]? = some [.int .i64 x] := by
        rw [eIs_get _ _ (by simp; omega)]
        simp [ha]
      have gB : (eIs (pre ++ x :: (mm ++ [y]) ++ post))[b]? = some [.int .i64 y] := by
        have e1 : pre ++ x :: (mm ++ [y]) ++ post = (pre ++ x :: mm) ++ (y :: post) := by simp
        rw [e1, eIs_get _ _ (by simp; omega), List.getElem_append_right (by simp; omega)]
        simp [hb, Nat.add_assoc]
      have hab : a ≠ b := by omega
      have gB' : ((eIs (pre ++ x :: (mm ++ [y]) ++ post)).set a [.int .i64 y])[b]? = some [.int .i64 y] := by rw [List.getElem?_set_ne hab]; exact gB
      have hfin : ((eIs (pre ++ x :: (mm ++ [y]) ++ post)).set a [.int .i64 y]).set b [.int .i64 x] = eIs ((pre ++ [y]) ++ mm ++ ([x] ++ post)) := by
        have e1 : eIs (pre ++ x :: (mm ++ [y]) ++ post) = eIs pre ++ (eI x :: (eIs mm ++ (eI y :: eIs post))) := by simp [eIs]
        have e2 : a = (eIs pre).length + 0 := by simp [eIs, ha]
        have e3 : b = (eIs pre ++ (eI y :: eIs mm)).length + 0 := by simp [eIs, hb]; omega
        rw [e1, e2, hap_set, List.set_cons_zero]
        have e4 : eIs pre ++ [AV.int .i64 y] :: (eIs mm ++ eI y :: eIs post) = (eIs pre ++ (eI y :: eIs mm)) ++ (eI y :: eIs post) := by simp [eI]
        rw [e4, e3, hap_set, List.set_cons_zero]
        simp [eIs, eI]
      generalize eIs (pre ++ x :: (mm ++ [y]) ++ post) = L at *
      have xA := ix_hv (k := .i64) h5 (show a < n by omega) (c := none)
      have xB := ix_hv (k := .i64) h5 (show b < n by omega) (c := none)
      have hs : ∀ o, (h.set i o)[i]? = some o := fun o => get_set_eq h5
      have xB' := ix_hv (k := .i64) (hs (.arr ver 1 false (L.set a [.int .i64 y]))) (show b < n by omega) (c := none)
      have hw1 := w64s (n := a) (by omega)
      have hw2 : IntKind.i64.wrap ((b : Int) - 1) = (b : Int) - 1 := w64 (by omega) (by omega)
      rw [← ha] at h6
      obtain ⟨h', e1, e2, e3⟩ := ih (pre ++ [y]) mm ([x] ++ post) m ((b : Int) - 1) ((h.set i (.arr ver 1 false (L.set a [.int .i64 y]))).set i (.arr ver 1 false ((L.set a [.int .i64 y]).set b [.int .i64 x]))) (by omega) (by omega) (by simp; omega) (by simp; omega) (by rw [hfin]; exact get_set_eq (hs _))
      have el : (pre ++ [y]).length = a + 1 := by simp [ha]
      rw [el] at e1
      refine ⟨h', ?_, ?_, ?_⟩
      · rw [← e1, ← ha]
        simp only [loop_e,EB_slices_Reverse_sint_int_0,Zaa,Zab,Zac,Zad,Zae,Zag,Zaj,Zak,Zan,Zar,Zau,Zay,Zba,Zbi,Zbk,Zbo,Zbp,Zbq,Zcb,Zcu,Zcv,Zcw,Zcx,Zda,Zdb,Zdc,List.set_cons_zero,List.set_cons_succ,List.getD_cons_zero,List.getD_cons_succ,Option.bind_some,Zdd,Zde,Zdg,Zdy,Zeb,decide_true,List.length_cons,List.length_nil,if_true,Nat.reduceAdd,Nat.reduceLeDiff,eq_self,and_self,aload,acells,getArr,part,astore,putCells,List.all_cons,List.all_nil,cellOk,Bool.and_self,List.drop_zero,List.drop_succ_cons,List.take_succ_cons,List.take_zero,List.take_nil,List.cons_append,List.nil_append,List.set_cons_zero,h6,xA,xB,h5,gA,gB,hs,xB',gB',hw1,hw2]
      · rw [e2]; simp
      · refine fun j o ej hn => e3 j o ?_ hn
        have : i ≠ j := fun he => by subst he; rw [h5] at ej; cases ej; exact hn _ _ rfl
        exact get_set_ne (get_set_ne ej this) this

theorem f_Reverse {ys : List Int} {v : AV} {h : AHeap} (ho : Own ys v h) (hl : ys.length ≤ 1000000000) : ∃ h', lim G0.cfg (.func 46) [v] h = some (.tup [], h') ∧ Own ys.reverse v h' ∧ KeepA h h' := by
  rcases ho with ⟨rfl, rfl⟩ | ⟨h1, i, ver, rfl, h3⟩
  · refine ⟨h, lim_func rfl P_slices_Reverse_sint_int 1 ?_, Own.nil _, KeepA.refl _⟩
    have hw : IntKind.i64.wrap (0 - 1) = -1 := w64 (by omega) (by omega)
    have e : loopN (evalCode (lim G0.cfg) 1 B_slices_Reverse_sint_int_0) 1 ⟨[.nilS, .junk, .int .i64 0, .int .i64 (-1), .junk,.junk,.junk,.junk,.junk,.junk,.junk,.junk,.junk,.junk,.junk,.junk,.junk,.junk,.junk,.junk,.junk,.junk,.junk,.junk,.junk,.junk,.junk,.junk], h⟩ = some (.exit 0, ⟨[.junk,.junk,.junk,.junk,.junk,.junk,.junk,.junk,.junk,.junk,.junk,.junk,.junk,.junk,.junk,.junk,.junk,.junk,.junk,.junk,.junk,.junk,.junk,.junk,.junk,.junk,.junk,.junk], h⟩) := by
      simp only [loop_e,EB_slices_Reverse_sint_int_0,Zab,Zac,Zad,Zag,Zah,Zaj,Zak,Zal,Zas,Zav,Zay,Zbi,Zbk,Zbq,Zcu,Zcw,Zdb,Zdc,List.set_cons_zero,List.set_cons_succ,List.getD_cons_zero,List.getD_cons_succ,Zdg,decide_false,Int.reduceNeg,Int.reduceLT,eq_self]
    rw [R_slices_Reverse_sint_int]
    simp only [Zab,Zac,Zae,Zaf,Zag,Zaj,Zak,Zap,Zat,Zay,Zbi,Zbk,Zbq,Zcg,Zcs,Zcu,Zcv,Zcw,Zda,Zdb,Zdc,List.set_cons_zero,List.set_cons_succ,List.getD_cons_zero,List.getD_cons_succ,Option.map_some,Zde,Zdt,List.length_cons,List.length_nil,Nat.reduceAdd,Nat.reduceSub,Int.reduceNeg,eq_self,List.length_cons,List.length_nil,List.replicate_succ,List.replicate_zero,List.cons_append,List.nil_append,List.cons_append,List.nil_append,List.set_cons_zero,hw,e,resAll,resVals]
  · obtain ⟨h', e1, e2, e3⟩ := f_Rev_loop i ver ys.length hl (ys.length + 1) ys.length [] ys [] (ys.length + 1) ((ys.length : Int) - 1) h (Nat.le_refl _) (by omega) (by simp) (by simp) (by simpa using h3)
    have hw : IntKind.i64.wrap ((ys.length : Int) - 1) = (ys.length : Int) - 1 := w64 (by omega) (by omega)
    refine ⟨h', lim_func rfl P_slices_Reverse_sint_int (ys.length + 1) ?_, .inr ⟨by simpa using h1, i, ver, by simp, by simpa using e2⟩, e3⟩
    rw [List.length_nil, z0] at e1
    rw [R_slices_Reverse_sint_int]
    simp only [Zab,Zac,Zae,Zaf,Zag,Zaj,Zak,Zap,Zat,Zay,Zbi,Zbk,Zbq,Zcg,Zcs,Zcu,Zcv,Zcw,Zda,Zdb,Zdc,List.set_cons_zero,List.set_cons_succ,List.getD_cons_zero,List.getD_cons_succ,Option.map_some,Zde,Zdu,List.length_cons,List.length_nil,Nat.reduceAdd,Nat.reduceSub,eq_self,List.length_cons,List.length_nil,List.replicate_succ,List.replicate_zero,List.cons_append,List.nil_append,List.cons_append,List.nil_append,List.set_cons_zero,hw,e1,resAll,resVals]

theorem f_Eq_loop {a b : List Int} {v w : AV} (hv : Li a v) (hw : Li b w) (hl : a.length = b.length) (hm : a.length ≤ 1000000000) (N : Nat) (h : AHeap) : ∀ (d i m : Nat), a.length = i + d → d < m →
    loopN (evalCode (lim G0.cfg) N B_slices_Equal_sint_int_0) m ⟨[v, w, .junk,.junk,.junk,.junk,.junk,.junk,.junk,.junk,.junk,.junk, .int .i64 a.length, .int .i64 i, .junk,.junk,.junk,.junk,.junk,.junk,.junk,.junk,.junk,.junk,.junk,.junk], h⟩ = (bif decide (a.drop i = b.drop i) then some (.exit 0, ⟨[.junk,.junk,.junk,.junk,.junk,.junk,.junk,.junk,.junk,.junk,.junk,.junk,.junk,.junk,.junk,.junk,.junk,.junk,.junk,.junk,.junk,.junk,.junk,.junk,.junk,.junk], h⟩) else some (.ret, ⟨[.junk,.junk,.junk,.junk, .bool false, .junk,.junk,.junk,.junk,.junk,.junk,.junk,.junk,.junk,.junk,.junk,.junk,.junk,.junk,.junk,.junk,.junk,.junk,.junk,.junk,.junk], h⟩)) := by
  intro d
  induction d with
  | zero =>
    intro i m h1 h2
    obtain ⟨m, rfl⟩ : ∃ q, m = q + 1 := ⟨m - 1, by omega⟩
    have e1 : a.drop i = [] := List.drop_eq_nil_iff.2 (by omega)
    have e2 : b.drop i = [] := List.drop_eq_nil_iff.2 (by omega)
    have h3 : ¬ ((i : Int) < a.length) := by omega
    rw [e1, e2]
    simp only [loop_e,EB_slices_Equal_sint_int_0,Zab,Zac,Zad,Zag,Zah,Zaj,Zak,Zal,Zas,Zav,Zay,Zbi,Zbq,Zcu,Zcw,Zdb,Zdc,List.set_cons_zero,List.set_cons_succ,List.getD_cons_zero,List.getD_cons_succ,Zdg,decide_true,decide_false,eq_self,cond_true,h3]
  | succ d ih =>
    intro i m h1 h2
    obtain ⟨m, rfl⟩ : ∃ q, m = q + 1 := ⟨m - 1, by omega⟩
    have h3 : i < a.length := by omega
    have h3' : (i : Int) < a.length := by omega
    have h4 : i < b.length := by omega
    have e1 : a.drop i = a[i] :: a.drop (i + 1) := List.drop_eq_getElem_cons h3
    have e2 : b.drop i = b[i] :: b.drop (i + 1) := List.drop_eq_getElem_cons h4
    have hw1 := w64s (n := i) (by omega)
    have x1 := fun h => hv.ix h .i64 i h3
    have x2 := fun h => hw.ix h .i64 i h4
    rw [e1, e2]
    by_cases q : a[i] = b[i]
    case neg =>
      have : ¬ (a[i] :: a.drop (i + 1) = b[i] :: b.drop (i + 1)) := fun e => q (List.cons.inj e).1
      simp only [loop_e,EB_slices_Equal_sint_int_0,Zaa,Zab,Zac,Zad,Zae,Zag,Zai,Zaj,Zak,Zam,Zao,Zar,Zaw,Zay,Zbi,Zbk,Zbo,Zbq,Zcb,Zcu,Zcv,Zcw,Zda,Zdb,Zdc,List.set_cons_zero,List.set_cons_succ,List.getD_cons_zero,List.getD_cons_succ,Zdg,Zdl,Zem,decide_true,decide_false,Bool.not_false,eq_self,cond_false,h3',x1,x2,q,this]
    case pos =>
      have : (a[i] :: a.drop (i + 1) = b[i] :: b.drop (i + 1)) ↔ a.drop (i + 1) = b.drop (i + 1) := ⟨fun e => (List.cons.inj e).2, fun e => by rw [e, q]⟩
      simp only [this]
      rw [← ih (i + 1) m (by omega) (by omega)]
      simp only [loop_e,EB_slices_Equal_sint_int_0,Zaa,Zab,Zac,Zad,Zae,Zag,Zaj,Zak,Zan,Zar,Zas,Zau,Zay,Zbi,Zbk,Zbo,Zbq,Zcb,Zcu,Zcv,Zcw,Zda,Zdb,Zdc,List.set_cons_zero,List.set_cons_succ,List.getD_cons_zero,List.getD_cons_succ,Zdd,Zdg,Zdl,Zem,decide_true,Bool.not_true,eq_self,h3',x1,x2,q,hw1]

theorem f_Equal_run {a b : List Int} {v w : AV} (hv : Li a v) (hw : Li b w) (hm : a.length ≤ 1000000000) : ∃ h', runFn (lim G0.cfg) (a.length + 1) A_slices_Equal_sint_int [v, w] [] = some (.bool (decide (a = b)), h') := by
  have l1 := hv.len
  have l2 := hw.len
  rw [R_slices_Equal_sint_int]
  by_cases q : (a.length : Int) = b.length
  case neg =>
    have : ¬ a = b := fun e => q (by rw [e])
    exact ⟨[], by simp only [Zab,Zac,Zad,Zai,Zaj,Zak,Zam,Zar,Zay,Zbi,Zbk,Zbq,Zcg,Zct,Zcu,Zcv,Zcw,List.set_cons_zero,List.set_cons_succ,List.getD_cons_zero,List.getD_cons_succ,Option.map_some,Zdl,decide_false,Bool.not_false,List.length_cons,List.length_nil,Nat.reduceAdd,Nat.reduceSub,eq_self,List.length_cons,List.length_nil,List.replicate_succ,List.replicate_zero,List.cons_append,List.nil_append,List.cons_append,List.nil_append,List.set_cons_zero,l1,l2,q,this,resAll,resVals,resVal]⟩
  case pos =>
    have e := f_Eq_loop hv hw (by omega) hm (a.length + 1) [] a.length 0 (a.length + 1) (by omega) (by omega)
    rw [List.drop_zero, List.drop_zero, z0, q] at e
    cases q2 : decide (a = b)
    all_goals
      simp only [q2,cond_true,cond_false] at e
      exact ⟨[], by simp only [Zaa,Zab,Zac,Zad,Zae,Zaf,Zag,Zai,Zaj,Zak,Zam,Zao,Zap,Zas,Zat,Zay,Zbi,Zbk,Zbq,Zcg,Zct,Zcu,Zcv,Zcw,Zda,Zdb,Zdc,List.set_cons_zero,List.set_cons_succ,List.getD_cons_zero,List.getD_cons_succ,Option.map_some,Zdl,decide_true,Bool.not_true,List.length_cons,List.length_nil,Nat.reduceAdd,Nat.reduceSub,eq_self,List.length_cons,List.length_nil,List.replicate_succ,List.replicate_zero,List.cons_append,List.nil_append,List.cons_append,List.nil_append,List.set_cons_zero,l1,l2,q,e,resAll,resVals,resVal]⟩

theorem f_IxLi_loop {l : List Int} {v : AV} (hv : Li l v) {g : Nat} {caps : List AV} {p : Int → Bool} (hp : ∀ x ∈ l, ∀ H, lim G0.cfg (.func g) ([.int .i64 x] ++ caps) H = some (.bool (p x), H)) (hm : l.length ≤ maxLen) (h : AHeap) (n : Nat) : ∀ (d i m : Nat), l.length = i + d → d < m →
    loopN (evalCode (lim G0.cfg) n B_slices_IndexFunc_sint_int_0) m ⟨[v, .fn (.func g) [] caps, .junk,.junk,.junk,.junk,.junk, .int .i64 l.length, .int .i64 i, .junk,.junk,.junk,.junk,.junk,.junk,.junk,.junk,.junk,.junk], h⟩ =
      match ixGo p (l.drop i) i with
      | none => some (.exit 0, ⟨[.junk,.junk,.junk,.junk,.junk,.junk,.junk,.junk,.junk,.junk,.junk,.junk,.junk,.junk,.junk,.junk,.junk,.junk,.junk], h⟩)
      | some j => some (.ret, ⟨[.junk,.junk,.junk,.junk, .int .i64 j, .junk,.junk,.junk,.junk,.junk,.junk,.junk,.junk,.junk,.junk,.junk,.junk,.junk,.junk], h⟩) := by
  rw [maxLen_eq] at hm
  intro d
  induction d with
  | zero =>
    intro i m h1 h2
    obtain ⟨m, rfl⟩ : ∃ q, m = q + 1 := ⟨m - 1, by omega⟩
    have e1 : l.drop i = [] := List.drop_eq_nil_iff.2 (by omega)
    have h3 : ¬ ((i : Int) < l.length) := by omega
    simp only [loop_e,EB_slices_IndexFunc_sint_int_0,Zab,Zac,Zad,Zag,Zah,Zaj,Zak,Zal,Zas,Zav,Zay,Zbi,Zbq,Zcu,Zcw,Zdb,Zdc,List.set_cons_zero,List.set_cons_succ,List.getD_cons_zero,List.getD_cons_succ,Zdg,decide_false,eq_self,h3,e1,ixGo]
  | succ d ih =>
    intro i m h1 h2
    obtain ⟨m, rfl⟩ : ∃ q, m = q + 1 := ⟨m - 1, by omega⟩
    have h3 : i < l.length := by omega
    have h3' : (i : Int) < l.length := by omega
    have e1 : l.drop i = l[i] :: l.drop (i + 1) := List.drop_eq_getElem_cons h3
    have hw := w64s (n := i) (by omega)
    have hc := hp l[i] (List.getElem_mem h3)
    have x1 := fun h => hv.ix h .i64 i h3
    simp only [List.cons_append,List.nil_append] at hc
    simp only [loop_e,EB_slices_IndexFunc_sint_int_0,Zaa,Zab,Zac,Zad,Zae,Zak,Zar,Zay,Zaz,Zbi,Zbk,Zbo,Zbq,Zcb,Zco,Zcp,Zcu,Zcw,Zcy,Zcz,List.set_cons_zero,List.set_cons_succ,List.getD_cons_zero,List.getD_cons_succ,Zdg,Zem,decide_true,Zem,h3',e1,x1,hc,List.cons_append,List.nil_append,ixGo]
    cases hpx : p l[i]
    · simp only [hw,Zaa,Zab,Zag,Zaj,Zak,Zan,Zas,Zau,Zay,Zbi,Zbk,Zbq,Zcu,Zcv,Zcw,Zda,Zdb,Zdc,List.set_cons_zero,List.set_cons_succ,List.getD_cons_zero,List.getD_cons_succ,Zdd,if_false,Bool.false_eq_true]
      exact ih (i + 1) m (by omega) (by omega)
    · simp only [Zab,Zac,Zag,Zai,Zaj,Zak,Zam,Zao,Zar,Zaw,Zbi,Zbk,Zcu,Zcw,Zda,Zdb,Zdc,List.set_cons_zero,List.set_cons_succ,List.getD_cons_zero,List.getD_cons_succ,if_true,eq_self]
theorem f_IxLi {l : List Int} {v : AV} (hv : Li l v) {g : Nat} {caps : List AV} {p : Int → Bool} (hp : ∀ x ∈ l, ∀ H, lim G0.cfg (.func g) ([.int .i64 x] ++ caps) H = some (.bool (p x), H)) (hm : l.length ≤ maxLen) (hcp : ∀ h, mapO (freeze h 999) caps = some (caps.map fun x => (x, true))) (H : AHeap) :
    lim G0.cfg (.func 78) [v, .fn (.func g) [] caps] H = some (.int .i64 (ixInt (ixGo p l 0)), H) := by
  refine lim_flat rfl rfl P_slices_IndexFunc_sint_int (l.length + 1) (fun h => fz_2 (hv.fz h) (fz_fn 999 (hcp h))) ?_ (fun _ => rfl) H
  have hl := f_IxLi_loop hv hp hm [] (l.length + 1) l.length 0 (l.length + 1) (by omega) (by omega)
  have l1 := hv.len
  rw [List.drop_zero, z0] at hl
  rw [R_slices_IndexFunc_sint_int]
  cases he : ixGo p l 0 <;> simp only [he] at hl <;> simp only [Zab,Zac,Zae,Zaf,Zag,Zai,Zaj,Zak,Zam,Zao,Zap,Zat,Zay,Zbi,Zbk,Zcg,Zct,Zcu,Zcv,Zcw,Zda,Zdb,Zdc,List.set_cons_zero,List.set_cons_succ,List.getD_cons_zero,List.getD_cons_succ,Option.map_some,List.length_cons,List.length_nil,Nat.reduceAdd,Nat.reduceSub,Int.reduceNeg,eq_self,true_and,List.length_cons,List.length_nil,List.replicate_succ,List.replicate_zero,List.cons_append,List.nil_append,l1,hl,resAll,resVals,resVal,Option.some.injEq,Prod.mk.injEq,true_and,exists_eq',ixInt]
theorem f_HasLi_run {l : List Int} {v : AV} (hv : Li l v) {g : Nat} {caps : List AV} {p : Int → Bool} (hp : ∀ x ∈ l, ∀ H, lim G0.cfg (.func g) ([.int .i64 x] ++ caps) H = some (.bool (p x), H)) (hm : l.length ≤ maxLen) (hcp : ∀ h, mapO (freeze h 999) caps = some (caps.map fun x => (x, true))) :
    ∃ h', runFn (lim G0.cfg) 1 A_slices_ContainsFunc_sint_int [v, .fn (.func g) [] caps] [] = some (.bool (l.any p), h') := by
  rw [R_slices_ContainsFunc_sint_int]
  simp only [Zab,Zac,Zai,Zaj,Zak,Zay,Zaz,Zbi,Zbk,Zbq,Zco,Zcp,Zct,Zcu,Zcv,Zcw,Zcy,Zcz,List.set_cons_zero,List.set_cons_succ,List.getD_cons_zero,List.getD_cons_succ,Option.map_some,Zdj,List.length_cons,List.length_nil,Nat.reduceAdd,Nat.reduceSub,eq_self,true_and,List.length_cons,List.length_nil,List.replicate_succ,List.replicate_zero,List.cons_append,List.nil_append,f_IxLi hv hp hm hcp,ixGo_any,resAll,resVals,resVal,Option.some.injEq,Prod.mk.injEq,true_and,exists_eq']
theorem f_HasLi {l : List Int} {v : AV} (hv : Li l v) {g : Nat} {caps caps' : List AV} {bs : List (AV × Bool)} {p : Int → Bool} {H : AHeap} (hf : mapO (freeze H 999) caps = some bs) (hbs : bs.map (·.1) = caps') (hp : ∀ x ∈ l, ∀ H, lim G0.cfg (.func g) ([.int .i64 x] ++ caps') H = some (.bool (p x), H)) (hm : l.length ≤ maxLen)
    (hcp : ∀ h, mapO (freeze h 999) caps' = some (caps'.map fun x => (x, true))) : lim G0.cfg (.func 43) [v, .fn (.func g) [] caps] H = some (.bool (l.any p), H) := by
  obtain ⟨h', hr⟩ := f_HasLi_run hv hp hm hcp
  subst hbs
  have h1 : mapO (freeze H 1000) [v, .fn (.func g) [] caps] = some [(v, true), (.fn (.func g) [] (bs.map (·.1)), bs.all (·.2))] := mapO_2 (hv.fz H) (fz_fnc60 hf)
  exact lim_fz rfl rfl P_slices_ContainsFunc_sint_int 1 h1 hr (rfl : freeze h' 1000 (.bool (l.any p)) = some (.bool (l.any p), true)) (Bool.or_true _)

/-- Outside of lo to hi. -/
def outB (lo hi : Int) (n : Int) : Bool := decide (n < lo) || decide (hi ≤ n)
theorem f_out (lo hi n : Int) (H : AHeap) : lim G0.cfg (.func 42) ([.int .i64 n] ++ [.vptr [.int .i64 lo] 0, .vptr [.int .i64 hi] 0]) H = some (.bool (outB lo hi n), H) := by
  refine lim_func rfl P_tree_Of_1_1 1 ?_
  rw [R_tree_Of_1_1]
  unfold outB
  by_cases q : n < lo
  · simp only [Zab,Zac,Zai,Zaj,Zak,Zay,Zbd,Zbg,Zbi,Zbj,Zbk,Zbl,Zbo,Zbq,Zct,Zcu,Zcv,Zcw,List.set_cons_zero,List.set_cons_succ,List.getD_cons_zero,List.getD_cons_succ,Option.bind_some,Option.map_some,Zdg,Zdy,decide_true,List.length_cons,List.length_nil,if_true,Nat.reduceAdd,Nat.reduceSub,Nat.reduceLeDiff,eq_self,List.length_cons,List.length_nil,List.replicate_succ,List.replicate_zero,List.cons_append,List.nil_append,aload,acells,part,List.drop_zero,List.take_succ_cons,List.take_nil,List.cons_append,List.nil_append,List.set_cons_zero,q,resAll,resVals,resVal,Bool.true_or]
  · simp only [Zab,Zac,Zai,Zaj,Zak,Zay,Zbc,Zbh,Zbi,Zbj,Zbk,Zbl,Zbo,Zbq,Zct,Zcu,Zcv,Zcw,List.set_cons_zero,List.set_cons_succ,List.getD_cons_zero,List.getD_cons_succ,Option.bind_some,Option.map_some,Zdg,Zdj,Zdy,decide_false,List.length_cons,List.length_nil,if_true,Nat.reduceAdd,Nat.reduceSub,Nat.reduceLeDiff,eq_self,List.length_cons,List.length_nil,List.replicate_succ,List.replicate_zero,List.cons_append,List.nil_append,aload,acells,part,List.drop_zero,List.take_succ_cons,List.take_nil,List.cons_append,List.nil_append,List.set_cons_zero,q,resAll,resVals,resVal,Bool.false_or]
theorem f_outside (lo hi : Int) (H : AHeap) : lim G0.cfg (.func 41) [.int .i64 lo, .int .i64 hi] H = some (.fn (.func 42) [] [.ptr H.length 0 0 0, .ptr (H.length + 1) 0 0 0], H ++ [.arr 0 1 true [[.int .i64 lo]], .arr 0 1 true [[.int .i64 hi]]]) := by
  refine lim_func rfl P_tree_Of_1 1 ?_
  rw [R_tree_Of_1]
  simp only [Zab,Zac,Zai,Zaj,Zak,Zaz,Zbi,Zbk,Zbn,Zbt,Zcr,Zct,Zcu,Zcv,Zcw,Zcy,Zcz,List.set_cons_zero,List.set_cons_succ,List.getD_cons_zero,List.getD_cons_succ,Option.map_some,Zeb,List.length_cons,List.length_nil,if_true,Nat.reduceAdd,Nat.reduceSub,eq_self,List.length_cons,List.length_nil,List.replicate_succ,List.replicate_zero,List.cons_append,List.nil_append,List.cons_append,List.nil_append,List.set_cons_zero,List.append_assoc,List.length_append,resAll,resVals,resVal]
/-- Is an element outside? -/
theorem f_hasOut {l : List Int} {v : AV} (hv : Li l v) (hm : l.length ≤ maxLen) (lo hi : Int) (H : AHeap) {i j : Nat} (hi' : H[i]? = some (.arr 0 1 true [[.int .i64 lo]])) (hj : H[j]? = some (.arr 0 1 true [[.int .i64 hi]])) : lim G0.cfg (.func 43) [v, .fn (.func 42) [] [.ptr i 0 0 0, .ptr j 0 0 0]] H = some (.bool (l.any (outB lo hi)), H) := by
  have fz1 : ∀ (k : Nat) (z : Int), H[k]? = some (.arr 0 1 true [[.int .i64 z]]) → freeze H 999 (.ptr k 0 0 0) = some (.vptr [.int .i64 z] 0, false) := fun k z hk => by
    have e : freeze H 999 (.ptr k 0 0 0) = (match getArr H k 0 with
      | some (_, _, l) =>
        match l[0]? with
        | some cells => (mapO (freeze H 998) cells).map fun c => (.vptr (c.map (·.1)) 0, false)
        | none => none
      | none => none) := rfl
    have e2 : getArr H k 0 = some (1, true, [[.int .i64 z]]) := by simp only [getArr,hk,if_true]
    rw [e, e2]
    rfl
  refine f_HasLi hv (mapO_2 (fz1 i lo hi') (fz1 j hi hj)) rfl (fun x _ H => f_out lo hi x H) hm fun h => rfl
end Go.Proofs.Ytkimloceaihplaa.Ai
namespace Go.Proofs.Ytkimloceaihplaa.Ai
open Go Go.Proofs
set_option linter.unusedVariables false
set_option linter.unusedSimpArgs false
set_option maxRecDepth 10000
set_option maxHeartbeats 4000000

mutual
def depT : T → Nat
  | .node _ _ ks => 1 + depTs ks
def depTs : List T → Nat
  | [] => 0
  | t :: ks => max (depT t) (depTs ks)
end
mutual
theorem depT_size : ∀ t, depT t ≤ sizeN t
  | .node s r ks => by have := depTs_size ks; simp only [depT,sizeN]; omega
theorem depTs_size : ∀ ks, depTs ks ≤ sizeNs ks
  | [] => by simp [depTs, sizeNs]
  | t :: ks => by have := depT_size t; have := depTs_size ks; simp only [depTs,sizeNs]; omega
end

/-- A tree in memory, read through. -/
theorem hsl_fz {h : AHeap} {d i n : Nat} {rows : List (List AV)} {q : List (List (AV × Bool))} (hi : h[i]? = some (.arr 0 3 true rows)) (hn : rows.length = n) (hm : mapO (mapO (freeze h d)) rows = some q) :
    freeze h (d + 1) (.hsl i 0 0 n none) = some (.vsl false (q.map (·.map (·.1))), false) := by
  have hg : getArr h i 0 = some (3, true, rows) := by simp only [getArr,hi,if_true]
  have := freeze_hsl (c := none) (o := 0) (n := n) hg (by omega) (d := d) (q := q) (by rw [List.drop_zero, List.take_of_length_le (by omega)]; exact hm)
  exact this
mutual
theorem fz_rep {h : AHeap} : ∀ (t : T) {lo : Nat} {c : List AV} {d : Nat}, RepT h lo t c → depT t ≤ d → ∃ q, mapO (freeze h (d + 1)) c = some q ∧ Enc t (q.map (·.1))
  | .node s r ks, lo, c, d, hr, hd => by
    obtain ⟨kv, rfl, hk⟩ := hr
    rcases hk with ⟨rfl, rfl⟩ | ⟨i, rows, _, rfl, hi, hrs⟩
    · exact ⟨_, mapO_3 rfl rfl rfl, _, rfl, .inl ⟨rfl, rfl⟩⟩
    · simp only [depT] at hd
      obtain ⟨d, rfl⟩ : ∃ k, d = k + 1 := ⟨d - 1, by omega⟩
      obtain ⟨q, hq, he⟩ := fz_reps ks hrs (show depTs ks ≤ d by omega)
      refine ⟨_, mapO_3 rfl rfl (hsl_fz hi hrs.len hq), _, rfl, .inr ⟨false, _, rfl, he⟩⟩
theorem fz_reps {h : AHeap} : ∀ (ks : List T) {lo : Nat} {rows : List (List AV)} {d : Nat}, RepTs h lo ks rows → depTs ks ≤ d → ∃ q, mapO (mapO (freeze h (d + 1))) rows = some q ∧ Encs ks (q.map (·.map (·.1)))
  | [], lo, rows, d, hr, hd => by cases hr; exact ⟨[], rfl, rfl⟩
  | t :: ks, lo, rows, d, hr, hd => by
    obtain ⟨c, rest, rfl, h1, h2⟩ := hr
    simp only [depTs] at hd
    obtain ⟨q1, e1, f1⟩ := fz_rep t h1 (show depT t ≤ d by omega)
    obtain ⟨q2, e2, f2⟩ := fz_reps ks h2 (show depTs ks ≤ d by omega)
    exact ⟨q1 :: q2, by simp only [mapO,e1,e2], _, _, rfl, f1, f2⟩
end

theorem f_Of {g : GramD} (hg : GramR g) (h0 : gramErr g = 0) {ws ms : List Int} {w mv : AV} (hw : Li ws w) (hm : Li ms mv) (lw : ws.length ≤ 65536) (lm : ms.length ≤ 65536) (rw_ : ws.any (outB 0 g.terms.length) = false) (rm : ∀ k ∈ ms, 1 ≤ k ∧ k < g.rules.length)
    {t : T} {sz : Int} {y : List Int} (hk : kidsOf g (mkNode g ms.length) 0 ⟨ms.reverse, 2, []⟩ = ((t, 0), ⟨[], sz, y⟩)) (hy : y.reverse = ws) (hd : depT t ≤ 900) :
    ∃ c, Enc t c ∧ ∀ H, lim G0.cfg (.func 25) [.agg (eGram g), w, mv] H = some (.tup [.agg c, .int .i64 0], H) := by
  have key : ∃ c h', RepT h' 7 t c ∧ runFn (lim G0.cfg) 1 A_tree_Of [.agg (eGram g), w, mv] [] = some (.tup [.agg c, .int .i64 0], h') := by
    have c1 := f_Right g hg.ok
    rw [h0] at c1
    have gt := hg.good.tm
    have rm' : ms.any (outB 1 g.rules.length) = false := by
      rw [List.any_eq_false]
      intro k hk
      obtain ⟨a, b⟩ := rm k hk
      simp only [outB,Bool.or_eq_true,decide_eq_true_eq]
      omega
    have k1 := f_hasOut hw (by rw [maxLen_eq]; omega) 0 g.terms.length [.arr 0 5 true [eGram g], .arr 0 3 true [[.int .i64 0, .int .i64 0, .nilS]], .arr 0 1 true [[.int .i64 0]], .arr 0 1 true [[.int .i64 g.terms.length]]] (i := 2) (j := 3) rfl rfl
    rw [rw_] at k1
    have k2 := f_hasOut hm (by rw [maxLen_eq]; omega) 1 g.rules.length [.arr 0 5 true [eGram g], .arr 0 3 true [[.int .i64 0, .int .i64 0, .nilS]], .arr 0 1 true [[.int .i64 0]], .arr 0 1 true [[.int .i64 g.terms.length]], .arr 0 1 true [[.int .i64 1]], .arr 0 1 true [[.int .i64 g.rules.length]]] (i := 4) (j := 5) rfl rfl
    rw [rm'] at k2
    have lw' : ¬ ((65536 : Int) < ws.length) := by omega
    have lm' : ¬ ((65536 : Int) < ms.length) := by omega
    have ww := hw.len
    have mm := hm.len
    obtain ⟨mc, mo⟩ := hm.cell
    obtain ⟨x, s, hx, hxl, hxr, hxs⟩ := hg.good.zero
    obtain ⟨r1, r2, r3⟩ := hg.rule hx
    obtain ⟨H, hH⟩ : ∃ H : AHeap, H = [.arr 0 5 true [eGram g], .arr 0 3 true [[.int .i64 0, .int .i64 0, .nilS]], .arr 0 1 true [[.int .i64 0]], .arr 0 1 true [[.int .i64 g.terms.length]], .arr 0 1 true [[.int .i64 1]], .arr 0 1 true [[.int .i64 g.rules.length]], .arr 0 9 true [eMk g mv (.int .i64 0) (.int .i64 2) .nilS]] := ⟨_, rfl⟩
    have hI : MInv g 6 ms.length (0 + x.right.length) ⟨ms.reverse, 2, []⟩ H := by
      refine ⟨mv, .nilS, by rw [hH]; rfl, by rw [List.reverse_reverse]; exact hm, Own.nil _, fun k hk => rm k (by simpa using hk), ?_, by simp, by simp, by simp; omega⟩
      rw [hxr]; simp
    obtain ⟨c, h1, hc, cel, kp, ok⟩ := f_kids (f_node hg 6 ms.length) g 6 mv (.int .i64 0) (.int .i64 2) .nilS 0 x hx (by omega) r1 r2 r3 0 ⟨ms.reverse, 2, []⟩ H hI (by rw [hH]; rfl)
    rw [hk] at hc ok
    obtain ⟨rep, mv', yv, hb, hml, ho, _, hp, hsz, _⟩ := ok rfl
    simp only [List.reverse_nil] at hml
    have ml := hml.len
    simp only [List.length_nil,z0] at ml
    have e1 : h1[1]? = some (.arr 0 3 true [[.int .i64 0, .int .i64 0, .nilS]]) := kp 1 _ (by rw [hH]; rfl) soft3
    have eb : ∀ l : AHeap, (h1 ++ l)[6]? = some (.arr 0 9 true [eMk g mv' (.int .i64 0) (.int .i64 sz) yv]) := fun l => get_app hb l
    have hp' : (y.length : Int) + ((0 : Nat) : Int) ≤ sz := hp
    have hsz' : sz ≤ 65536 := hsz
    obtain ⟨h2, hr, ho2, ka⟩ := f_Reverse (ho.app [.arr 0 3 true [c]]) (by omega)
    have eb2 := ka 6 _ (eb _) (fun _ _ e => by cases e)
    have et2 := ka h1.length _ (get_new h1 (.arr 0 3 true [c])) (fun _ _ e => by cases e)
    have e12 := ka 1 _ (get_app e1 _) (fun _ _ e => by cases e)
    obtain ⟨cf, hcf⟩ := ho2.freeze
    obtain ⟨h3, hq⟩ := f_Equal_run (li_encL y.reverse) hw (by rw [hy]; omega)
    rw [hy] at hcf hq
    have heq : lim G0.cfg (.func 47) [yv, w] h2 = some (.bool true, h2) := by
      have := lim_fz (H := h2) rfl rfl P_slices_Equal_sint_int (ws.length + 1) (mapO_2 hcf (hw.fz h2)) hq (rfl : freeze h3 1000 (.bool (decide (ws = ws))) = some (.bool (decide (ws = ws)), true)) (Bool.or_true _)
      rw [this]; simp
    have e12' := get_set_eq (y := AObj.arr 0 3 true [c]) e12
    refine ⟨c, h2.set 1 (.arr 0 3 true [c]), ?_, ?_⟩
    · have hl : H.length = 7 := by rw [hH]; rfl
      rw [hl] at rep
      exact ((rep.keep (Nat.le_refl _) (Keep.app _ _)).keep (Nat.le_refl _) ka.keep).setB (by omega) _
    · obtain ⟨ca, cb, kv, rfl, hkv⟩ := cel
      rw [hH, z0] at hc
      rw [R_tree_Of]
      rcases hkv with rfl | ⟨i, j, rfl⟩ <;> simp only [Zaa,Zab,Zac,Zad,Zae,Zai,Zaj,Zak,Zan,Zas,Zay,Zaz,Zba,Zbc,Zbh,Zbi,Zbj,Zbk,Zbl,Zbm,Zbn,Zbo,Zbp,Zbq,Zbr,Zbt,Zby,Zbz,Zcf,Zcg,Zcl,Zco,Zcp,Zcr,Zct,Zcu,Zcv,Zcw,Zcx,Zcy,Zcz,List.set_cons_zero,List.set_cons_succ,List.getD_cons_zero,List.getD_cons_succ,Option.bind_some,Option.map_some,Zdi,Zdl,Zdq,Zds,Zdw,Zdy,Zdz,Zea,Zeb,Zel,Zep,decide_true,decide_false,Bool.not_true,List.getElem?_cons_zero,List.getElem?_cons_succ,List.length_cons,List.length_nil,if_true,Nat.reduceAdd,Nat.reduceSub,Nat.reduceLeDiff,Int.reduceLT,eq_self,and_self,List.length_map,List.length_cons,List.length_nil,List.replicate_succ,List.replicate_zero,List.cons_append,List.nil_append,aload,acells,getArr,part,astore,putCells,List.all_cons,List.all_nil,cellOk,Bool.and_self,List.drop_zero,List.drop_succ_cons,List.take_succ_cons,List.take_zero,List.take_nil,List.cons_append,List.nil_append,List.set_cons_zero,c1,f_outside,k1,k2,ww,mm,lw',lm',mc,hc,ml,eb,hr,eb2,heq,et2,e12,e12',hap_get0,hap_set0,an_p,afill,evp,fillCells,Nat.reduceLT,resAll,resVals,resVal]
  obtain ⟨c, h', rep, hrun⟩ := key
  obtain ⟨q, hq, he⟩ := fz_rep t rep (show depT t ≤ 997 by omega)
  refine ⟨_, he, fun H => lim_at rfl rfl P_tree_Of 1 (fun h => fz_3 (fz_gram g h) (hw.fz h) (hm.fz h)) hrun (c := q.all (·.2) && (true && true)) ?_ H⟩
  have e1 : freeze h' 1000 (.tup [.agg c, .int .i64 0]) = (mapO (freeze h' 999) [.agg c, .int .i64 0]).map fun l => (.tup (l.map (·.1)), l.all (·.2)) := rfl
  have e2 : freeze h' 999 (.agg c) = (mapO (freeze h' 998) c).map fun l => (.agg (l.map (·.1)), l.all (·.2)) := rfl
  rw [hq] at e2
  rw [e1, mapO_2 e2 (rfl : freeze h' 999 (.int .i64 0) = some (.int .i64 0, true))]
  rfl
end Go.Proofs.Ytkimloceaihplaa.Ai
