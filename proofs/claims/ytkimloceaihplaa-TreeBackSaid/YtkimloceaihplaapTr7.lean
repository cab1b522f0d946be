/- Trees: does a tree agree with the rules? -/
import Derived.Test.YtkimloceaihplaapTr6
namespace Go.Proofs.Ytkimloceaihplaa.Ai
open Go Go.Proofs
set_option linter.unusedVariables false
set_option linter.unusedSimpArgs false
set_option maxRecDepth 10000
set_option maxHeartbeats 4000000

theorem f_tthere (g : GramD) (hg : g.Ok) (s : Int) (hs : inI64 s) (H : AHeap) : lim G0.cfg (.func 51) [.agg (eGram g), .int .i64 s] H = some (.bool (isSym g s), H) := by
  refine lim_flat rfl rfl P_tree_there 1 (fun h => fz_2 (fz_gram g h) rfl) ?_ (fun _ => rfl) H
  have hw : IntKind.i64.wrap (-1 - s) = -1 - s := by obtain ⟨a, b⟩ := hs; exact w64 (by omega) (by omega)
  have hd : decide (-(g.nonterms.length : Int) ≤ s) = decide (-1 - s < (g.nonterms.length : Int)) := by rw [decide_eq_decide]; omega
  rw [R_tree_there]
  unfold isSym
  rw [hd]
  by_cases h1 : s < (g.terms.length : Int)
  · simp only [Zab,Zac,Zai,Zaj,Zak,Zay,Zaz,Zbb,Zbg,Zbi,Zbj,Zbk,Zbl,Zbn,Zbo,Zbq,Zby,Zcg,Zcr,Zct,Zcu,Zcv,Zcw,List.set_cons_zero,List.set_cons_succ,List.getD_cons_zero,List.getD_cons_succ,Option.bind_some,Option.map_some,Zde,Zdg,Zds,Zdw,Zdy,Zea,Zep,decide_true,List.getElem?_cons_zero,List.length_cons,List.length_nil,if_true,Nat.reduceAdd,Nat.reduceSub,Nat.reduceLeDiff,Int.reduceNeg,eq_self,true_and,List.length_cons,List.length_nil,List.replicate_succ,List.replicate_zero,List.cons_append,List.nil_append,aload,acells,getArr,part,List.drop_zero,List.drop_succ_cons,List.take_succ_cons,List.take_zero,List.cons_append,List.nil_append,List.set_cons_zero,h1,hw,resAll,resVals,resVal,Option.some.injEq,Prod.mk.injEq,true_and,Bool.true_and,exists_eq']
  · simp only [Zab,Zac,Zai,Zaj,Zak,Zay,Zaz,Zbe,Zbh,Zbi,Zbj,Zbk,Zbl,Zbn,Zbo,Zbq,Zby,Zcg,Zcr,Zct,Zcu,Zcv,Zcw,List.set_cons_zero,List.set_cons_succ,List.getD_cons_zero,List.getD_cons_succ,Option.bind_some,Option.map_some,Zdg,Zds,Zdw,Zdy,Zea,Zep,decide_false,List.getElem?_cons_zero,List.length_cons,List.length_nil,if_true,Nat.reduceAdd,Nat.reduceSub,Nat.reduceLeDiff,Int.reduceNeg,eq_self,true_and,List.length_cons,List.length_nil,List.replicate_succ,List.replicate_zero,List.cons_append,List.nil_append,aload,acells,getArr,part,List.drop_zero,List.take_succ_cons,List.take_zero,List.cons_append,List.nil_append,List.set_cons_zero,h1,resAll,resVals,resVal,Option.some.injEq,Prod.mk.injEq,true_and,Bool.false_and,exists_eq']

theorem r_Symbol (g : GramD) (hg : g.Ok) (s : Int) (H : AHeap) : lim G0.cfg (.func 57) [.agg (eGram g), .int .i64 s] H = some (.bool (isSym g s), H) := by
  refine lim_flat rfl rfl P_r20_Symbol 1 (fun h => fz_2 (fz_gram g h) rfl) ?_ (fun _ => rfl) H
  have hw : IntKind.i64.wrap (-(g.nonterms.length : Int)) = -(g.nonterms.length : Int) := by have := hg.nonterms; rw [maxLen_eq] at this; exact w64 (by omega) (by omega)
  rw [R_r20_Symbol]
  unfold isSym
  by_cases h1 : s < (g.terms.length : Int)
  · simp only [Zab,Zac,Zai,Zaj,Zak,Zay,Zaz,Zbb,Zbg,Zbi,Zbj,Zbk,Zbl,Zbn,Zbo,Zbq,Zbr,Zby,Zcg,Zcr,Zct,Zcu,Zcv,Zcw,List.set_cons_zero,List.set_cons_succ,List.getD_cons_zero,List.getD_cons_succ,Option.bind_some,Option.map_some,Zdg,Zdj,Zdr,Zds,Zdw,Zdy,Zea,Zep,decide_true,List.getElem?_cons_zero,List.length_cons,List.length_nil,if_true,Nat.reduceAdd,Nat.reduceSub,Nat.reduceLeDiff,eq_self,true_and,List.length_cons,List.length_nil,List.replicate_succ,List.replicate_zero,List.cons_append,List.nil_append,aload,acells,getArr,part,List.drop_zero,List.drop_succ_cons,List.take_succ_cons,List.take_zero,List.cons_append,List.nil_append,List.set_cons_zero,h1,hw,resAll,resVals,resVal,Option.some.injEq,Prod.mk.injEq,true_and,Bool.true_and,exists_eq']
  · simp only [Zab,Zac,Zai,Zaj,Zak,Zay,Zaz,Zbe,Zbh,Zbi,Zbj,Zbk,Zbl,Zbn,Zbo,Zbq,Zby,Zcg,Zcr,Zct,Zcu,Zcv,Zcw,List.set_cons_zero,List.set_cons_succ,List.getD_cons_zero,List.getD_cons_succ,Option.bind_some,Option.map_some,Zdg,Zds,Zdw,Zdy,Zea,Zep,decide_false,List.getElem?_cons_zero,List.length_cons,List.length_nil,if_true,Nat.reduceAdd,Nat.reduceSub,Nat.reduceLeDiff,eq_self,true_and,List.length_cons,List.length_nil,List.replicate_succ,List.replicate_zero,List.cons_append,List.nil_append,aload,acells,getArr,part,List.drop_zero,List.take_succ_cons,List.take_zero,List.cons_append,List.nil_append,List.set_cons_zero,h1,resAll,resVals,resVal,Option.some.injEq,Prod.mk.injEq,true_and,Bool.false_and,exists_eq']

theorem f_fits_1 (t : T) (s : Int) (H : AHeap) : lim G0.cfg (.func 75) [.agg (cT t), .int .i64 s] H = some (.bool (decide (t.sym = s)), H) := by
  refine lim_flat rfl rfl P_tree_fits_1 1 (fun h => fz_2 (fz_tree t h) rfl) ?_ (fun _ => rfl) H
  rw [R_tree_fits_1]
  simp only [Zab,Zac,Zai,Zaj,Zak,Zay,Zaz,Zbi,Zbk,Zbn,Zbo,Zbq,Zby,Zcr,Zct,Zcu,Zcv,Zcw,List.set_cons_zero,List.set_cons_succ,List.getD_cons_zero,List.getD_cons_succ,Option.bind_some,Option.map_some,Zdk,Zdw,Zdy,Zea,List.getElem?_cons_zero,List.length_cons,List.length_nil,if_true,Nat.reduceAdd,Nat.reduceSub,Nat.reduceLeDiff,eq_self,true_and,List.length_cons,List.length_nil,List.replicate_succ,List.replicate_zero,List.cons_append,List.nil_append,aload,acells,getArr,part,List.drop_zero,List.take_succ_cons,List.take_zero,List.cons_append,List.nil_append,List.set_cons_zero,cT_eq,resAll,resVals,resVal,Option.some.injEq,Prod.mk.injEq,true_and,exists_eq']

theorem f_eqf (ks : List T) (l : List Int) (hm : ks.length ≤ maxLen) (H : AHeap) :
    lim G0.cfg (.func 74) [.vsl false (ks.map cT), .vsl false (eIs l), .fn (.func 75) [] []] H = some (.bool (decide (ks.map T.sym = l)), H) := by
  refine lim_flat rfl rfl P_slices_EqualFunc_sTree_sint_Tree_int (ks.length + 1) (fun h => fz_3 (fz_vsl _ _ _) (fz_vsl _ _ _) rfl) ?_ (fun _ => rfl) H
  rw [maxLen_eq] at hm
  rw [R_slices_EqualFunc_sTree_sint_Tree_int]
  by_cases hl : (ks.length : Int) = l.length
  case neg =>
    have hne : ¬ (ks.map T.sym = l) := fun e => hl (by rw [← e, List.length_map])
    simp only [Zab,Zac,Zad,Zai,Zaj,Zak,Zam,Zar,Zay,Zbi,Zbk,Zbq,Zcg,Zct,Zcu,Zcv,Zcw,List.set_cons_zero,List.set_cons_succ,List.getD_cons_zero,List.getD_cons_succ,Option.map_some,Zdl,Zds,Zeo,decide_false,Bool.not_false,List.length_cons,List.length_nil,Nat.reduceAdd,Nat.reduceSub,eq_self,true_and,List.length_map,List.length_cons,List.length_nil,List.replicate_succ,List.replicate_zero,List.cons_append,List.nil_append,hl,hne,resAll,resVals,resVal,Option.some.injEq,Prod.mk.injEq,true_and,exists_eq']
  case pos =>
  have hl2 : ks.length = l.length := by omega
  have hd : decide ((ks.length : Int) = l.length) = true := decide_eq_true hl
  have loop : ∀ (d i m : Nat) (h : AHeap), ks.length = i + d → d < m → ∃ h',
      loopN (evalCode (lim G0.cfg) (ks.length + 1) B_slices_EqualFunc_sTree_sint_Tree_int_0) m ⟨[.junk, .vsl false (eIs l), .fn (.func 75) [] [], .junk,.junk,.junk,.junk,.junk,.junk,.junk,.junk,.junk,.junk,.junk,.junk, .vsl false (ks.map cT), .int .i64 ks.length, .int .i64 i, .junk,.junk,.junk,.junk,.junk,.junk,.junk,.junk,.junk,.junk,.junk,.junk,.junk,.junk], h⟩ =
        bif decide ((ks.drop i).map T.sym = l.drop i) then some (.exit 0, ⟨[.junk,.junk,.junk,.junk,.junk,.junk,.junk,.junk,.junk,.junk,.junk,.junk,.junk,.junk,.junk,.junk,.junk,.junk,.junk,.junk,.junk,.junk,.junk,.junk,.junk,.junk,.junk,.junk,.junk,.junk,.junk,.junk], h'⟩) else some (.ret, ⟨[.junk,.junk,.junk,.junk,.junk,.junk, .bool false, .junk,.junk,.junk,.junk,.junk,.junk,.junk,.junk,.junk,.junk,.junk,.junk,.junk,.junk,.junk,.junk,.junk,.junk,.junk,.junk,.junk,.junk,.junk,.junk,.junk], h'⟩) := by
    intro d
    induction d with
    | zero =>
      intro i m h h1 h2
      obtain ⟨m, rfl⟩ : ∃ q, m = q + 1 := ⟨m - 1, by omega⟩
      have e1 : ks.drop i = [] := List.drop_eq_nil_iff.2 (by omega)
      have e2 : l.drop i = [] := List.drop_eq_nil_iff.2 (by omega)
      have h3 : ¬ ((i : Int) < ks.length) := by omega
      have e3 : decide ((ks.drop i).map T.sym = l.drop i) = true := by rw [e1, e2]; rfl
      rw [e3]
      exact ⟨h, by simp only [loop_e,EB_slices_EqualFunc_sTree_sint_Tree_int_0,Zab,Zac,Zad,Zag,Zah,Zaj,Zak,Zal,Zas,Zav,Zay,Zbi,Zbq,Zcu,Zcw,Zdb,Zdc,List.set_cons_zero,List.set_cons_succ,List.getD_cons_zero,List.getD_cons_succ,Zdg,decide_false,eq_self,cond_true,h3]⟩
    | succ d ih =>
      intro i m h h1 h2
      obtain ⟨m, rfl⟩ : ∃ q, m = q + 1 := ⟨m - 1, by omega⟩
      have h3 : i < ks.length := by omega
      have h3' : (i : Int) < ks.length := by omega
      have h4 : i < l.length := by omega
      have e1 : ks.drop i = ks[i] :: ks.drop (i + 1) := List.drop_eq_getElem_cons h3
      have e2 : l.drop i = l[i] :: l.drop (i + 1) := List.drop_eq_getElem_cons h4
      have hw := w64s (n := i) (by omega)
      have hk := cT_eq ks[i]
      have hc := f_fits_1 ks[i] l[i]
      have ii := fun h => ix_tree h false ks .i64 i h3
      simp only [hk] at hc ii
      by_cases hab : (ks[i]).sym = l[i]
      · have e3 : decide ((ks.drop i).map T.sym = l.drop i) = decide ((ks.drop (i + 1)).map T.sym = l.drop (i + 1)) := by rw [e1, e2, List.map_cons, hab]; simp only [List.cons.injEq,true_and]
        obtain ⟨h', e⟩ := ih (i + 1) m (h ++ [.arr 0 3 true [[.int .i64 (ks[i]).sym, .int .i64 (ks[i]).rule, .vsl false ((ks[i]).kids.map cT)]]]) (by omega) (by omega)
        refine ⟨h', ?_⟩
        rw [e3, ← e]
        rw [hab] at hc ii ⊢
        simp only [loop_e,EB_slices_EqualFunc_sTree_sint_Tree_int_0,Zaa,Zab,Zac,Zad,Zae,Zag,Zaj,Zak,Zan,Zar,Zas,Zau,Zay,Zaz,Zba,Zbi,Zbk,Zbm,Zbo,Zbp,Zbq,Zbr,Zcb,Zco,Zcp,Zcu,Zcv,Zcw,Zcx,Zcy,Zcz,Zda,Zdb,Zdc,List.set_cons_zero,List.set_cons_succ,List.getD_cons_zero,List.getD_cons_succ,Option.bind_some,Zdd,Zdg,Zdq,Zdy,Zdz,Zea,decide_true,Bool.not_true,List.getElem?_cons_zero,List.length_cons,List.length_nil,if_true,Nat.reduceAdd,Nat.reduceLeDiff,eq_self,and_self,aload,acells,getArr,part,eI,astore,putCells,get_new,set_new,List.all_cons,List.all_nil,cellOk,Bool.and_self,List.drop_zero,List.drop_succ_cons,List.take_succ_cons,List.take_zero,List.take_nil,List.cons_append,List.nil_append,List.set_cons_zero,h3',ii,ix_eIs _ _ l _ i h4,hc,hw]
      · have e3 : decide ((ks.drop i).map T.sym = l.drop i) = false := by rw [e1, e2, List.map_cons]; simp only [List.cons.injEq,hab,false_and,decide_false]
        rw [e3]
        refine ⟨h ++ [.arr 0 3 true [[.int .i64 (ks[i]).sym, .int .i64 (ks[i]).rule, .vsl false ((ks[i]).kids.map cT)]]], ?_⟩
        have hd : decide ((ks[i]).sym = l[i]) = false := decide_eq_false hab
        rw [hd] at hc
        simp only [loop_e,EB_slices_EqualFunc_sTree_sint_Tree_int_0,Zaa,Zab,Zac,Zad,Zae,Zag,Zai,Zaj,Zak,Zam,Zao,Zar,Zaw,Zay,Zaz,Zba,Zbi,Zbk,Zbm,Zbo,Zbp,Zbq,Zbr,Zcb,Zco,Zcp,Zcu,Zcv,Zcw,Zcx,Zcy,Zcz,Zda,Zdb,Zdc,List.set_cons_zero,List.set_cons_succ,List.getD_cons_zero,List.getD_cons_succ,Option.bind_some,Zdg,Zdq,Zdy,Zdz,Zea,decide_true,Bool.not_false,List.getElem?_cons_zero,List.length_cons,List.length_nil,if_true,Nat.reduceAdd,Nat.reduceLeDiff,eq_self,and_self,cond_false,aload,acells,getArr,part,eI,astore,putCells,get_new,set_new,List.all_cons,List.all_nil,cellOk,Bool.and_self,List.drop_zero,List.drop_succ_cons,List.take_succ_cons,List.take_zero,List.take_nil,List.cons_append,List.nil_append,List.set_cons_zero,h3',ii,ix_eIs _ _ l _ i h4,hc]
  obtain ⟨h', e⟩ := loop ks.length 0 (ks.length + 1) [] (by omega) (by omega)
  rw [List.drop_zero, List.drop_zero, z0] at e
  cases q : decide (ks.map T.sym = l)
  · rw [q] at e
    simp only [cond_false] at e
    simp only [Zaa,Zab,Zac,Zad,Zae,Zaf,Zag,Zaj,Zak,Zam,Zao,Zas,Zat,Zay,Zbi,Zbk,Zbq,Zcg,Zct,Zcu,Zcv,Zcw,Zda,Zdb,Zdc,List.set_cons_zero,List.set_cons_succ,List.getD_cons_zero,List.getD_cons_succ,Option.map_some,Zdl,Zds,Zeo,Bool.not_true,List.length_cons,List.length_nil,Nat.reduceAdd,Nat.reduceSub,eq_self,true_and,List.length_map,List.length_cons,List.length_nil,List.replicate_succ,List.replicate_zero,List.cons_append,List.nil_append,hd,e,resAll,resVals,resVal,Option.some.injEq,Prod.mk.injEq,true_and,exists_eq']
  · rw [q] at e
    simp only [cond_true] at e
    simp only [Zaa,Zab,Zac,Zad,Zae,Zaf,Zag,Zai,Zaj,Zak,Zap,Zas,Zat,Zay,Zbi,Zbk,Zbq,Zcg,Zct,Zcu,Zcv,Zcw,Zda,Zdb,Zdc,List.set_cons_zero,List.set_cons_succ,List.getD_cons_zero,List.getD_cons_succ,Option.map_some,Zdl,Zds,Zeo,Bool.not_true,List.length_cons,List.length_nil,Nat.reduceAdd,Nat.reduceSub,eq_self,true_and,List.length_map,List.length_cons,List.length_nil,List.replicate_succ,List.replicate_zero,List.cons_append,List.nil_append,hd,e,resAll,resVals,resVal,Option.some.injEq,Prod.mk.injEq,true_and,exists_eq']

theorem f_fits (g : GramD) (hg : g.Ok) (t : T) (ht : okT t) (H : AHeap) : lim G0.cfg (.func 35) [.agg (eGram g), .agg (cT t)] H = some (.bool (fitsB g t), H) := by
  refine lim_flat rfl rfl P_tree_fits 1 (fun h => fz_2 (fz_gram g h) (fz_tree t h)) ?_ (fun _ => rfl) H
  obtain ⟨s, r, ks⟩ := t
  obtain ⟨hs, hr, hlen, hoks⟩ := id ht
  have tt := f_tthere g hg s hs
  rw [R_tree_fits]
  simp only [fitsB]
  by_cases q1 : r = -1
  case pos =>
    subst q1
    rw [if_pos rfl]
    by_cases q2 : (ks.length : Int) = 0
    · simp only [Zab,Zac,Zad,Zai,Zaj,Zak,Zam,Zar,Zay,Zaz,Zbb,Zbg,Zbi,Zbj,Zbk,Zbl,Zbn,Zbo,Zbq,Zby,Zcg,Zco,Zcp,Zcr,Zct,Zcu,Zcv,Zcw,Zcy,Zcz,List.set_cons_zero,List.set_cons_succ,List.getD_cons_zero,List.getD_cons_succ,Option.bind_some,Option.map_some,Zdk,Zds,Zdw,Zdy,Zdz,Zea,decide_true,List.getElem?_cons_zero,List.getElem?_cons_succ,List.length_cons,List.length_nil,if_true,Nat.reduceAdd,Nat.reduceSub,Nat.reduceLeDiff,Int.reduceNeg,eq_self,true_and,List.length_map,List.length_cons,List.length_nil,List.replicate_succ,List.replicate_zero,List.cons_append,List.nil_append,aload,acells,getArr,part,List.drop_zero,List.drop_succ_cons,List.take_succ_cons,List.take_zero,List.take_nil,List.cons_append,List.nil_append,List.set_cons_zero,cT,cTs_map,q2,tt,resAll,resVals,resVal,Option.some.injEq,Prod.mk.injEq,true_and,Bool.true_and,exists_eq']
    · simp only [Zab,Zac,Zad,Zai,Zaj,Zak,Zam,Zar,Zay,Zaz,Zbe,Zbh,Zbi,Zbj,Zbk,Zbl,Zbn,Zbo,Zbq,Zby,Zcg,Zcr,Zct,Zcu,Zcv,Zcw,List.set_cons_zero,List.set_cons_succ,List.getD_cons_zero,List.getD_cons_succ,Option.bind_some,Option.map_some,Zdk,Zds,Zdw,Zdy,Zea,decide_true,decide_false,List.getElem?_cons_zero,List.getElem?_cons_succ,List.length_cons,List.length_nil,if_true,Nat.reduceAdd,Nat.reduceSub,Nat.reduceLeDiff,Int.reduceNeg,eq_self,true_and,List.length_map,List.length_cons,List.length_nil,List.replicate_succ,List.replicate_zero,List.cons_append,List.nil_append,aload,acells,getArr,part,List.drop_zero,List.drop_succ_cons,List.take_succ_cons,List.take_zero,List.take_nil,List.cons_append,List.nil_append,List.set_cons_zero,cT,cTs_map,q2,resAll,resVals,resVal,Option.some.injEq,Prod.mk.injEq,true_and,Bool.false_and,exists_eq']
  case neg =>
  rw [if_neg q1]
  by_cases q2 : r < 0
  case pos =>
    rw [if_pos (.inl q2)]
    simp only [Zaa,Zab,Zac,Zad,Zai,Zaj,Zak,Zam,Zar,Zas,Zay,Zaz,Zbd,Zbg,Zbi,Zbj,Zbk,Zbl,Zbn,Zbo,Zbq,Zby,Zcr,Zct,Zcu,Zcv,Zcw,List.set_cons_zero,List.set_cons_succ,List.getD_cons_zero,List.getD_cons_succ,Option.bind_some,Option.map_some,Zdg,Zdk,Zdw,Zdy,Zea,decide_true,decide_false,List.getElem?_cons_zero,List.getElem?_cons_succ,List.length_cons,List.length_nil,if_true,Nat.reduceAdd,Nat.reduceSub,Nat.reduceLeDiff,Int.reduceNeg,eq_self,true_and,List.length_cons,List.length_nil,List.replicate_succ,List.replicate_zero,List.cons_append,List.nil_append,aload,acells,getArr,part,List.drop_zero,List.drop_succ_cons,List.take_succ_cons,List.take_zero,List.cons_append,List.nil_append,List.set_cons_zero,cT,cTs_map,q1,q2,resAll,resVals,resVal,Option.some.injEq,Prod.mk.injEq,true_and,exists_eq']
  case neg =>
  by_cases q3 : (g.rules.length : Int) ≤ r
  case pos =>
    rw [if_pos (.inr q3)]
    simp only [Zaa,Zab,Zac,Zad,Zai,Zaj,Zak,Zam,Zar,Zas,Zay,Zaz,Zbc,Zbh,Zbi,Zbj,Zbk,Zbl,Zbn,Zbo,Zbq,Zby,Zcg,Zcr,Zct,Zcu,Zcv,Zcw,List.set_cons_zero,List.set_cons_succ,List.getD_cons_zero,List.getD_cons_succ,Option.bind_some,Option.map_some,Zdg,Zdj,Zdk,Zds,Zdw,Zdy,Zea,decide_true,decide_false,List.getElem?_cons_zero,List.getElem?_cons_succ,List.length_cons,List.length_nil,if_true,Nat.reduceAdd,Nat.reduceSub,Nat.reduceLeDiff,Int.reduceNeg,eq_self,true_and,List.length_map,List.length_cons,List.length_nil,List.replicate_succ,List.replicate_zero,List.cons_append,List.nil_append,aload,acells,getArr,part,List.drop_zero,List.drop_succ_cons,List.take_succ_cons,List.take_zero,List.cons_append,List.nil_append,List.set_cons_zero,cT,cTs_map,q1,q2,q3,resAll,resVals,resVal,Option.some.injEq,Prod.mk.injEq,true_and,exists_eq']
  case neg =>
  rw [if_neg (by omega)]
  obtain ⟨k, rfl⟩ : ∃ k : Nat, r = k := ⟨r.toNat, by omega⟩
  have hk : k < g.rules.length := by omega
  have hgk : g.rules[(k : Int).toNat]? = some g.rules[k] := by simp [hk]
  rw [hgk]
  simp only
  obtain ⟨x, hx⟩ : ∃ x, x = g.rules[k] := ⟨_, rfl⟩
  have hxo : x.Ok := by rw [hx]; exact hg.rule _ (List.getElem_mem hk)
  have ii := fun h => ix_map eRule h 5 false g.rules .i64 k hk rfl
  rw [← hx] at ii ⊢
  have hwl : IntKind.i64.wrap (-1 - x.left) = -1 - x.left := by obtain ⟨a, b⟩ := hxo.left0; exact w64 (by omega) (by omega)
  have hq := f_eqf ks x.right hlen
  by_cases q4 : s = -1 - x.left
  case neg =>
    simp only [Zaa,Zab,Zac,Zad,Zai,Zaj,Zak,Zas,Zay,Zaz,Zba,Zbc,Zbe,Zbh,Zbi,Zbj,Zbk,Zbl,Zbm,Zbn,Zbo,Zbp,Zbq,Zby,Zcb,Zcg,Zcr,Zct,Zcu,Zcv,Zcw,Zcx,List.set_cons_zero,List.set_cons_succ,List.getD_cons_zero,List.getD_cons_succ,Option.bind_some,Option.map_some,Zde,Zdg,Zdj,Zdk,Zds,Zdw,Zdy,Zdz,Zea,decide_false,List.getElem?_cons_zero,List.getElem?_cons_succ,List.length_cons,List.length_nil,if_true,Nat.reduceAdd,Nat.reduceSub,Nat.reduceLeDiff,Int.reduceNeg,eq_self,and_self,true_and,List.length_map,List.length_cons,List.length_nil,List.replicate_succ,List.replicate_zero,List.cons_append,List.nil_append,aload,acells,getArr,part,astore,putCells,List.all_cons,List.all_nil,cellOk,Bool.and_self,List.drop_zero,List.drop_succ_cons,List.take_succ_cons,List.take_zero,List.take_nil,List.cons_append,List.nil_append,List.set_cons_zero,cT,cTs_map,q1,q2,q3,q4,ii,hwl,resAll,resVals,resVal,Option.some.injEq,Prod.mk.injEq,true_and,Bool.false_and,exists_eq']
  case pos =>
    simp only [Zaa,Zab,Zac,Zad,Zai,Zaj,Zak,Zas,Zay,Zaz,Zba,Zbb,Zbc,Zbg,Zbh,Zbi,Zbj,Zbk,Zbl,Zbm,Zbn,Zbo,Zbp,Zbq,Zby,Zcb,Zcg,Zco,Zcp,Zcr,Zct,Zcu,Zcv,Zcw,Zcx,Zcy,Zcz,List.set_cons_zero,List.set_cons_succ,List.getD_cons_zero,List.getD_cons_succ,Option.bind_some,Option.map_some,Zde,Zdg,Zdj,Zdk,Zds,Zdw,Zdy,Zdz,Zea,decide_true,decide_false,List.getElem?_cons_zero,List.getElem?_cons_succ,List.length_cons,List.length_nil,if_true,Nat.reduceAdd,Nat.reduceSub,Nat.reduceLeDiff,Int.reduceNeg,eq_self,and_self,true_and,List.length_map,List.length_cons,List.length_nil,List.replicate_succ,List.replicate_zero,List.cons_append,List.nil_append,aload,acells,getArr,part,astore,putCells,List.all_cons,List.all_nil,cellOk,Bool.and_self,List.drop_zero,List.drop_succ_cons,List.take_succ_cons,List.take_zero,List.take_nil,List.cons_append,List.nil_append,List.set_cons_zero,cT,cTs_map,q1,q2,q3,q4,ii,hwl,hq,resAll,resVals,resVal,Option.some.injEq,Prod.mk.injEq,true_and,Bool.true_and,exists_eq']

theorem nodesB_eq (g : GramD) : ∀ ks, nodesB g ks = ks.all (nodeB g)
  | [] => rfl
  | t :: r => by simp [nodesB, nodesB_eq g r]

theorem r_node (g : GramD) (hg : g.Ok) : ∀ t, okT t → ∀ H, lim G0.cfg (.func 36) [.agg (eGram g), .agg (cT t)] H = some (.bool (nodeB g t), H) := by
  intro t
  induction t using T.ind with
  | _ s r ks ih =>
  intro hok H
  refine lim_flat rfl rfl P_r20_node (ks.length + 1) (fun h => fz_2 (fz_gram g h) (fz_tree _ h)) ?_ (fun _ => rfl) H
  obtain ⟨hs, hr, hlen, hoks⟩ := id hok
  rw [maxLen_eq] at hlen
  have tt := r_Symbol g hg s
  rw [R_r20_node]
  simp only [nodeB,fitsB,nodesB_eq]
  by_cases q1 : r = -1
  case pos =>
    subst q1
    rw [if_pos rfl]
    by_cases q2 : (ks.length : Int) = 0
    · have e : ks = [] := List.length_eq_zero_iff.1 (by omega)
      subst e
      simp only [Zab,Zac,Zad,Zai,Zaj,Zak,Zam,Zar,Zay,Zaz,Zbb,Zbg,Zbi,Zbj,Zbk,Zbl,Zbn,Zbo,Zbq,Zby,Zcg,Zco,Zcp,Zcr,Zct,Zcu,Zcv,Zcw,Zcy,Zcz,List.set_cons_zero,List.set_cons_succ,List.getD_cons_zero,List.getD_cons_succ,Option.bind_some,Option.map_some,Zdk,Zds,Zdw,Zdy,Zdz,Zea,decide_true,List.getElem?_cons_zero,List.getElem?_cons_succ,List.length_cons,List.length_nil,if_true,Nat.reduceAdd,Nat.reduceSub,Nat.reduceLeDiff,Int.reduceNeg,eq_self,true_and,List.length_cons,List.length_nil,List.replicate_succ,List.replicate_zero,List.cons_append,List.nil_append,aload,acells,getArr,part,List.all_nil,List.drop_zero,List.drop_succ_cons,List.take_succ_cons,List.take_zero,List.take_nil,List.cons_append,List.nil_append,List.set_cons_zero,cT,cTs,tt,z0,List.all_nil,resAll,resVals,resVal,Option.some.injEq,Prod.mk.injEq,true_and,Bool.true_and,Bool.and_true,exists_eq']
    · simp only [Zab,Zac,Zad,Zai,Zaj,Zak,Zam,Zar,Zay,Zaz,Zbe,Zbh,Zbi,Zbj,Zbk,Zbl,Zbn,Zbo,Zbq,Zby,Zcg,Zcr,Zct,Zcu,Zcv,Zcw,List.set_cons_zero,List.set_cons_succ,List.getD_cons_zero,List.getD_cons_succ,Option.bind_some,Option.map_some,Zdk,Zds,Zdw,Zdy,Zea,decide_true,decide_false,List.getElem?_cons_zero,List.getElem?_cons_succ,List.length_cons,List.length_nil,if_true,Nat.reduceAdd,Nat.reduceSub,Nat.reduceLeDiff,Int.reduceNeg,eq_self,true_and,List.length_map,List.length_cons,List.length_nil,List.replicate_succ,List.replicate_zero,List.cons_append,List.nil_append,aload,acells,getArr,part,List.drop_zero,List.drop_succ_cons,List.take_succ_cons,List.take_zero,List.take_nil,List.cons_append,List.nil_append,List.set_cons_zero,cT,cTs_map,q2,resAll,resVals,resVal,Option.some.injEq,Prod.mk.injEq,true_and,Bool.false_and,exists_eq']
  case neg =>
  rw [if_neg q1]
  by_cases q2 : r < 0
  case pos =>
    rw [if_pos (.inl q2)]
    simp only [Zaa,Zab,Zac,Zad,Zai,Zaj,Zak,Zam,Zar,Zas,Zay,Zaz,Zbd,Zbg,Zbi,Zbj,Zbk,Zbl,Zbn,Zbo,Zbq,Zby,Zcr,Zct,Zcu,Zcv,Zcw,List.set_cons_zero,List.set_cons_succ,List.getD_cons_zero,List.getD_cons_succ,Option.bind_some,Option.map_some,Zdg,Zdk,Zdw,Zdy,Zea,decide_true,decide_false,List.getElem?_cons_zero,List.getElem?_cons_succ,List.length_cons,List.length_nil,if_true,Nat.reduceAdd,Nat.reduceSub,Nat.reduceLeDiff,Int.reduceNeg,eq_self,true_and,List.length_cons,List.length_nil,List.replicate_succ,List.replicate_zero,List.cons_append,List.nil_append,aload,acells,getArr,part,List.drop_zero,List.drop_succ_cons,List.take_succ_cons,List.take_zero,List.cons_append,List.nil_append,List.set_cons_zero,cT,cTs_map,q1,q2,resAll,resVals,resVal,Option.some.injEq,Prod.mk.injEq,true_and,Bool.false_and,exists_eq']
  case neg =>
  by_cases q3 : (g.rules.length : Int) ≤ r
  case pos =>
    rw [if_pos (.inr q3)]
    simp only [Zaa,Zab,Zac,Zad,Zai,Zaj,Zak,Zam,Zar,Zas,Zay,Zaz,Zbc,Zbh,Zbi,Zbj,Zbk,Zbl,Zbn,Zbo,Zbq,Zby,Zcg,Zcr,Zct,Zcu,Zcv,Zcw,List.set_cons_zero,List.set_cons_succ,List.getD_cons_zero,List.getD_cons_succ,Option.bind_some,Option.map_some,Zdg,Zdj,Zdk,Zds,Zdw,Zdy,Zea,decide_true,decide_false,List.getElem?_cons_zero,List.getElem?_cons_succ,List.length_cons,List.length_nil,if_true,Nat.reduceAdd,Nat.reduceSub,Nat.reduceLeDiff,Int.reduceNeg,eq_self,true_and,List.length_map,List.length_cons,List.length_nil,List.replicate_succ,List.replicate_zero,List.cons_append,List.nil_append,aload,acells,getArr,part,List.drop_zero,List.drop_succ_cons,List.take_succ_cons,List.take_zero,List.cons_append,List.nil_append,List.set_cons_zero,cT,cTs_map,q1,q2,q3,resAll,resVals,resVal,Option.some.injEq,Prod.mk.injEq,true_and,Bool.false_and,exists_eq']
  case neg =>
  rw [if_neg (by omega)]
  obtain ⟨k, rfl⟩ : ∃ k : Nat, r = k := ⟨r.toNat, by omega⟩
  have hk : k < g.rules.length := by omega
  have hgk : g.rules[(k : Int).toNat]? = some g.rules[k] := by simp [hk]
  rw [hgk]
  simp only
  obtain ⟨x, hx⟩ : ∃ x, x = g.rules[k] := ⟨_, rfl⟩
  have hxo : x.Ok := by rw [hx]; exact hg.rule _ (List.getElem_mem hk)
  have ii := fun h => ix_map eRule h 5 false g.rules .i64 k hk rfl
  rw [← hx] at ii ⊢
  have hwl : IntKind.i64.wrap (-1 - x.left) = -1 - x.left := by obtain ⟨a, b⟩ := hxo.left0; exact w64 (by omega) (by omega)
  by_cases q4 : s = -1 - x.left
  case neg =>
    simp only [Zaa,Zab,Zac,Zad,Zai,Zaj,Zak,Zam,Zar,Zas,Zay,Zaz,Zba,Zbc,Zbd,Zbg,Zbh,Zbi,Zbj,Zbk,Zbl,Zbm,Zbn,Zbo,Zbp,Zbq,Zby,Zcb,Zcg,Zcr,Zct,Zcu,Zcv,Zcw,Zcx,List.set_cons_zero,List.set_cons_succ,List.getD_cons_zero,List.getD_cons_succ,Option.bind_some,Option.map_some,Zde,Zdg,Zdj,Zdk,Zdl,Zds,Zdw,Zdy,Zdz,Zea,decide_false,Bool.not_false,List.getElem?_cons_zero,List.getElem?_cons_succ,List.length_cons,List.length_nil,if_true,Nat.reduceAdd,Nat.reduceSub,Nat.reduceLeDiff,Int.reduceNeg,eq_self,and_self,true_and,List.length_map,List.length_cons,List.length_nil,List.replicate_succ,List.replicate_zero,List.cons_append,List.nil_append,aload,acells,getArr,part,astore,putCells,List.all_cons,List.all_nil,cellOk,Bool.and_self,List.drop_zero,List.drop_succ_cons,List.take_succ_cons,List.take_zero,List.take_nil,List.cons_append,List.nil_append,List.set_cons_zero,cT,cTs_map,q1,q2,q3,q4,ii,hwl,resAll,resVals,resVal,Option.some.injEq,Prod.mk.injEq,true_and,Bool.false_and,exists_eq']
  case pos =>
  by_cases q5 : (ks.length : Int) = x.right.length
  case neg =>
    have hne : ¬ (ks.map T.sym = x.right) := fun e => q5 (by rw [← e, List.length_map])
    simp only [Zaa,Zab,Zac,Zad,Zai,Zaj,Zak,Zam,Zar,Zas,Zay,Zaz,Zba,Zbc,Zbh,Zbi,Zbj,Zbk,Zbl,Zbm,Zbn,Zbo,Zbp,Zbq,Zby,Zcb,Zcg,Zcr,Zct,Zcu,Zcv,Zcw,Zcx,List.set_cons_zero,List.set_cons_succ,List.getD_cons_zero,List.getD_cons_succ,Option.bind_some,Option.map_some,Zde,Zdg,Zdj,Zdk,Zdl,Zds,Zdw,Zdy,Zdz,Zea,Zeo,decide_true,decide_false,Bool.not_true,Bool.not_false,List.getElem?_cons_zero,List.getElem?_cons_succ,List.length_cons,List.length_nil,if_true,Nat.reduceAdd,Nat.reduceSub,Nat.reduceLeDiff,Int.reduceNeg,eq_self,and_self,true_and,List.length_map,List.length_cons,List.length_nil,List.replicate_succ,List.replicate_zero,List.cons_append,List.nil_append,aload,acells,getArr,part,astore,putCells,List.all_cons,List.all_nil,cellOk,Bool.and_self,List.drop_zero,List.drop_succ_cons,List.take_succ_cons,List.take_zero,List.take_nil,List.cons_append,List.nil_append,List.set_cons_zero,cT,cTs_map,q1,q2,q3,q4,q5,hne,ii,hwl,resAll,resVals,resVal,Option.some.injEq,Prod.mk.injEq,true_and,Bool.false_and,Bool.and_false,exists_eq']
  case pos =>
  have loop : ∀ (d i m : Nat) (c : AV), ks.length = i + d → d < m →
      loopN (evalCode (lim G0.cfg) (ks.length + 1) B_r20_node_0) m ⟨(.junk::.junk :: .ptr 0 0 0 0 :: .ptr 1 0 0 0 :: .junk :: .ptr 2 0 0 0 :: .int .i64 i :: .junk::.junk::.junk::.junk::.junk::.junk::.junk::.junk::.junk::.junk::.junk::.junk::.junk::.junk::.junk::.junk::.junk::.junk::.junk::.junk::.junk::.junk::.junk::.junk::.junk::.junk::.junk::.junk::.junk::.junk::.junk::.junk::.junk::.junk::.junk::.junk::.junk::.junk::.junk::.junk::.junk::.junk::.junk::.junk::.junk::.junk::.junk::.junk::.junk::.junk::.junk::.junk::.junk::.junk::.junk::.junk::.junk::.junk::.junk::.junk::.junk::.junk::.junk::.junk::.junk::.junk::.junk::.junk::.junk::.junk::.junk::.junk::.junk::.junk :: []), [.arr 0 5 true [eGram g], .arr 0 3 true [[c, .int .i64 k, .vsl false (ks.map cT)]], .arr 0 5 true [eRule x]]⟩ =
        bif decide ((ks.drop i).map T.sym = x.right.drop i) && (ks.drop i).all (nodeB g) then some (.exit 0, ⟨(.junk::.junk::.junk::.junk::.junk::.junk::.junk::.junk::.junk::.junk::.junk::.junk::.junk::.junk::.junk::.junk::.junk::.junk::.junk::.junk::.junk::.junk::.junk::.junk::.junk::.junk::.junk::.junk::.junk::.junk::.junk::.junk::.junk::.junk::.junk::.junk::.junk::.junk::.junk::.junk::.junk::.junk::.junk::.junk::.junk::.junk::.junk::.junk::.junk::.junk::.junk::.junk::.junk::.junk::.junk::.junk::.junk::.junk::.junk::.junk::.junk::.junk::.junk::.junk::.junk::.junk::.junk::.junk::.junk::.junk::.junk::.junk::.junk::.junk::.junk::.junk::.junk::.junk::.junk::.junk::.junk :: []), [.arr 0 5 true [eGram g], .arr 0 3 true [[c, .int .i64 k, .vsl false (ks.map cT)]], .arr 0 5 true [eRule x]]⟩)
          else some (.ret, ⟨(.junk::.junk::.junk::.junk :: .bool false::.junk::.junk::.junk::.junk::.junk::.junk::.junk::.junk::.junk::.junk::.junk::.junk::.junk::.junk::.junk::.junk::.junk::.junk::.junk::.junk::.junk::.junk::.junk::.junk::.junk::.junk::.junk::.junk::.junk::.junk::.junk::.junk::.junk::.junk::.junk::.junk::.junk::.junk::.junk::.junk::.junk::.junk::.junk::.junk::.junk::.junk::.junk::.junk::.junk::.junk::.junk::.junk::.junk::.junk::.junk::.junk::.junk::.junk::.junk::.junk::.junk::.junk::.junk::.junk::.junk::.junk::.junk::.junk::.junk::.junk::.junk::.junk::.junk::.junk::.junk::.junk :: []), [.arr 0 5 true [eGram g], .arr 0 3 true [[c, .int .i64 k, .vsl false (ks.map cT)]], .arr 0 5 true [eRule x]]⟩) := by
    intro d
    induction d with
    | zero =>
      intro i m c h1 h2
      obtain ⟨m, rfl⟩ : ∃ q, m = q + 1 := ⟨m - 1, by omega⟩
      have e1 : ks.drop i = [] := List.drop_eq_nil_iff.2 (by omega)
      have e2 : x.right.drop i = [] := List.drop_eq_nil_iff.2 (by omega)
      have h3 : ¬ ((i : Int) < ks.length) := by omega
      have e3 : (decide ((ks.drop i).map T.sym = x.right.drop i) && (ks.drop i).all (nodeB g)) = true := by rw [e1, e2]; rfl
      rw [e3]
      simp only [loop_e,EB_r20_node_0,Zab,Zac,Zad,Zag,Zah,Zaj,Zak,Zal,Zas,Zav,Zay,Zbi,Zbk,Zbo,Zbq,Zby,Zcg,Zcu,Zcw,Zdb,Zdc,List.set_cons_zero,List.set_cons_succ,List.getD_cons_zero,List.getD_cons_succ,Option.bind_some,Zdg,Zds,Zdw,Zdy,decide_false,List.getElem?_cons_zero,List.getElem?_cons_succ,List.length_cons,List.length_nil,if_true,Nat.reduceAdd,Nat.reduceLeDiff,eq_self,cond_true,List.length_map,aload,acells,getArr,part,List.drop_zero,List.drop_succ_cons,List.take_succ_cons,List.take_nil,List.set_cons_zero,h3]
    | succ d ihd =>
      intro i m c h1 h2
      obtain ⟨m, rfl⟩ : ∃ q, m = q + 1 := ⟨m - 1, by omega⟩
      have h3 : i < ks.length := by omega
      have h3' : (i : Int) < ks.length := by omega
      have h4 : i < x.right.length := by omega
      have e1 : ks.drop i = ks[i] :: ks.drop (i + 1) := List.drop_eq_getElem_cons h3
      have e2 : x.right.drop i = x.right[i] :: x.right.drop (i + 1) := List.drop_eq_getElem_cons h4
      have hw := w64s (n := i) (by omega)
      have hk := cT_eq ks[i]
      have hmem : ks[i] ∈ ks := List.getElem_mem h3
      have hc := ih ks[i] hmem (okTs_mem hoks hmem)
      have jj := fun h => ix_tree h false ks .i64 i h3
      simp only [hk] at hc jj
      by_cases hab : (ks[i]).sym = x.right[i]
      case neg =>
        have e3 : (decide ((ks.drop i).map T.sym = x.right.drop i) && (ks.drop i).all (nodeB g)) = false := by rw [e1, e2, List.map_cons]; simp only [List.cons.injEq,hab,false_and,decide_false,Bool.false_and]
        rw [e3]
        simp only [loop_e,EB_r20_node_0,Zaa,Zab,Zac,Zad,Zae,Zag,Zai,Zaj,Zak,Zam,Zao,Zar,Zaw,Zay,Zbd,Zbg,Zbi,Zbj,Zbk,Zbl,Zbo,Zbq,Zby,Zcb,Zcg,Zcu,Zcv,Zcw,Zda,Zdb,Zdc,List.set_cons_zero,List.set_cons_succ,List.getD_cons_zero,List.getD_cons_succ,Option.bind_some,Zdg,Zdl,Zds,Zdw,Zdx,Zdy,decide_true,decide_false,Bool.not_false,List.getElem?_cons_zero,List.getElem?_cons_succ,List.length_cons,List.length_nil,if_true,Nat.reduceAdd,Nat.reduceLeDiff,eq_self,cond_false,List.length_map,aload,acells,getArr,part,eI,List.drop_zero,List.drop_succ_cons,List.take_succ_cons,List.take_zero,List.take_nil,List.set_cons_zero,h3',jj,ix_eIs _ _ x.right _ i h4,hab]
      case pos =>
      rw [hab] at hc jj
      cases hn : nodeB g ks[i]
      case false =>
        have e3 : (decide ((ks.drop i).map T.sym = x.right.drop i) && (ks.drop i).all (nodeB g)) = false := by rw [e1, List.all_cons, hn]; simp only [Bool.false_and,Bool.and_false]
        rw [e3]
        rw [hn] at hc
        simp only [loop_e,EB_r20_node_0,Zaa,Zab,Zac,Zad,Zae,Zag,Zai,Zaj,Zak,Zam,Zao,Zar,Zaw,Zay,Zaz,Zbc,Zbh,Zbi,Zbj,Zbk,Zbl,Zbo,Zbq,Zbr,Zby,Zcb,Zcg,Zco,Zcp,Zcu,Zcv,Zcw,Zcy,Zcz,Zda,Zdb,Zdc,List.set_cons_zero,List.set_cons_succ,List.getD_cons_zero,List.getD_cons_succ,Option.bind_some,Zdg,Zdl,Zdq,Zds,Zdw,Zdx,Zdy,Zdz,decide_true,Bool.not_true,Bool.not_false,List.getElem?_cons_zero,List.getElem?_cons_succ,List.length_cons,List.length_nil,if_true,Nat.reduceAdd,Nat.reduceLeDiff,eq_self,cond_false,List.length_map,aload,acells,getArr,part,eI,List.drop_zero,List.drop_succ_cons,List.take_succ_cons,List.take_zero,List.take_nil,List.cons_append,List.nil_append,List.set_cons_zero,h3',jj,ix_eIs _ _ x.right _ i h4,hc]
      case true =>
        have e3 : (decide ((ks.drop i).map T.sym = x.right.drop i) && (ks.drop i).all (nodeB g)) = (decide ((ks.drop (i + 1)).map T.sym = x.right.drop (i + 1)) && (ks.drop (i + 1)).all (nodeB g)) := by
          rw [e1, e2, List.map_cons, hab, List.all_cons, hn]; simp only [List.cons.injEq,true_and,Bool.true_and]
        rw [e3, ← ihd (i + 1) m c (by omega) (by omega)]
        rw [hn] at hc
        simp only [loop_e,EB_r20_node_0,Zaa,Zab,Zac,Zad,Zae,Zag,Zaj,Zak,Zan,Zar,Zas,Zau,Zay,Zaz,Zbc,Zbh,Zbi,Zbj,Zbk,Zbl,Zbo,Zbq,Zbr,Zby,Zcb,Zcg,Zco,Zcp,Zcu,Zcv,Zcw,Zcy,Zcz,Zda,Zdb,Zdc,List.set_cons_zero,List.set_cons_succ,List.getD_cons_zero,List.getD_cons_succ,Option.bind_some,Zdd,Zdg,Zdl,Zdq,Zds,Zdw,Zdx,Zdy,Zdz,decide_true,Bool.not_true,List.getElem?_cons_zero,List.getElem?_cons_succ,List.length_cons,List.length_nil,if_true,Nat.reduceAdd,Nat.reduceLeDiff,eq_self,List.length_map,aload,acells,getArr,part,eI,List.drop_zero,List.drop_succ_cons,List.take_succ_cons,List.take_zero,List.take_nil,List.cons_append,List.nil_append,List.set_cons_zero,h3',jj,ix_eIs _ _ x.right _ i h4,hc,hw]
  have e := loop ks.length 0 (ks.length + 1) (.int .i64 s) (by omega) (by omega)
  rw [List.drop_zero, List.drop_zero, z0] at e
  have hs4 : decide (s = -1 - x.left) = true := by simp [q4]
  rw [hs4, Bool.true_and]
  rw [q4] at e
  cases q : (decide (ks.map T.sym = x.right) && ks.all (nodeB g))
  · rw [q] at e
    simp only [cond_false] at e
    simp only [Zaa,Zab,Zac,Zad,Zae,Zaf,Zag,Zaj,Zak,Zam,Zao,Zas,Zat,Zay,Zaz,Zba,Zbc,Zbh,Zbi,Zbj,Zbk,Zbl,Zbm,Zbn,Zbo,Zbp,Zbq,Zby,Zcb,Zcg,Zcr,Zct,Zcu,Zcv,Zcw,Zcx,Zda,Zdb,Zdc,List.set_cons_zero,List.set_cons_succ,List.getD_cons_zero,List.getD_cons_succ,Option.bind_some,Option.map_some,Zde,Zdg,Zdj,Zdk,Zdl,Zds,Zdw,Zdy,Zdz,Zea,Zeo,decide_true,decide_false,Bool.not_true,List.getElem?_cons_zero,List.getElem?_cons_succ,List.length_cons,List.length_nil,if_true,Nat.reduceAdd,Nat.reduceSub,Nat.reduceLeDiff,Int.reduceNeg,eq_self,and_self,true_and,List.length_map,List.length_cons,List.length_nil,List.replicate_succ,List.replicate_zero,List.cons_append,List.nil_append,aload,acells,getArr,part,astore,putCells,List.all_cons,List.all_nil,cellOk,Bool.and_self,List.drop_zero,List.drop_succ_cons,List.take_succ_cons,List.take_zero,List.take_nil,List.cons_append,List.nil_append,List.set_cons_zero,cT,cTs_map,q1,q2,q3,q4,q5,ii,hwl,e,resAll,resVals,resVal,Option.some.injEq,Prod.mk.injEq,true_and,exists_eq']
  · rw [q] at e
    simp only [cond_true] at e
    simp only [Zaa,Zab,Zac,Zad,Zae,Zaf,Zag,Zai,Zaj,Zak,Zap,Zas,Zat,Zay,Zaz,Zba,Zbc,Zbh,Zbi,Zbj,Zbk,Zbl,Zbm,Zbn,Zbo,Zbp,Zbq,Zby,Zcb,Zcg,Zcr,Zct,Zcu,Zcv,Zcw,Zcx,Zda,Zdb,Zdc,List.set_cons_zero,List.set_cons_succ,List.getD_cons_zero,List.getD_cons_succ,Option.bind_some,Option.map_some,Zde,Zdg,Zdj,Zdk,Zdl,Zds,Zdw,Zdy,Zdz,Zea,Zeo,decide_true,decide_false,Bool.not_true,List.getElem?_cons_zero,List.getElem?_cons_succ,List.length_cons,List.length_nil,if_true,Nat.reduceAdd,Nat.reduceSub,Nat.reduceLeDiff,Int.reduceNeg,eq_self,and_self,true_and,List.length_map,List.length_cons,List.length_nil,List.replicate_succ,List.replicate_zero,List.cons_append,List.nil_append,aload,acells,getArr,part,astore,putCells,List.all_cons,List.all_nil,cellOk,Bool.and_self,List.drop_zero,List.drop_succ_cons,List.take_succ_cons,List.take_zero,List.take_nil,List.cons_append,List.nil_append,List.set_cons_zero,cT,cTs_map,q1,q2,q3,q4,q5,ii,hwl,e,resAll,resVals,resVal,Option.some.injEq,Prod.mk.injEq,true_and,exists_eq']

/-- Is it a tree of the grammar? -/
def treeOk (g : GramD) (t : T) : Bool := decide (gramErr g = 0) && nodeB g t

theorem r_tRight (g : GramD) (hg : g.Ok) (t : T) (ht : okT t) (hN : sizeN t ≤ 65536) (H : AHeap) : lim G0.cfg (.func 13) [.agg (eGram g), .agg (cT t)] H = some (.bool (treeOk g t), H) := by
  refine lim_flat rfl rfl P_r20_Right 1 (fun h => fz_2 (fz_gram g h) (fz_tree t h)) ?_ (fun _ => rfl) H
  have c1 := r_Right g hg
  have c2 := r_Size t ht (by omega)
  have c3 := r_node g hg t ht
  have hk := cT_eq t
  simp only [hk] at c2 c3
  have q2 : (sizeN t : Int) ≤ 65536 := by omega
  rw [R_r20_Right]
  unfold treeOk
  by_cases q1 : gramErr g = 0
  · simp only [Zab,Zac,Zai,Zaj,Zak,Zay,Zaz,Zbb,Zbg,Zbi,Zbj,Zbk,Zbl,Zbn,Zbo,Zbq,Zco,Zcp,Zcr,Zct,Zcu,Zcv,Zcw,Zcy,Zcz,List.set_cons_zero,List.set_cons_succ,List.getD_cons_zero,List.getD_cons_succ,Option.bind_some,Option.map_some,Zdh,Zdk,Zdz,Zea,decide_true,List.getElem?_cons_zero,List.getElem?_cons_succ,List.length_cons,List.length_nil,if_true,Nat.reduceAdd,Nat.reduceSub,Nat.reduceLeDiff,eq_self,true_and,List.length_cons,List.length_nil,List.replicate_succ,List.replicate_zero,List.cons_append,List.nil_append,aload,acells,getArr,part,List.drop_zero,List.take_succ_cons,List.take_nil,List.cons_append,List.nil_append,List.set_cons_zero,hk,c1,c2,c3,q1,q2,resAll,resVals,resVal,Option.some.injEq,Prod.mk.injEq,true_and,Bool.true_and,exists_eq']
  · simp only [Zab,Zac,Zai,Zaj,Zak,Zay,Zaz,Zbe,Zbh,Zbi,Zbj,Zbk,Zbl,Zbn,Zbo,Zbq,Zco,Zcp,Zcr,Zct,Zcu,Zcv,Zcw,Zcy,Zcz,List.set_cons_zero,List.set_cons_succ,List.getD_cons_zero,List.getD_cons_succ,Option.bind_some,Option.map_some,Zdk,Zdz,Zea,decide_false,List.getElem?_cons_zero,List.length_cons,List.length_nil,if_true,Nat.reduceAdd,Nat.reduceSub,Nat.reduceLeDiff,eq_self,true_and,List.length_cons,List.length_nil,List.replicate_succ,List.replicate_zero,List.cons_append,List.nil_append,aload,acells,getArr,part,List.drop_zero,List.take_succ_cons,List.take_nil,List.cons_append,List.nil_append,List.set_cons_zero,hk,c1,q1,resAll,resVals,resVal,Option.some.injEq,Prod.mk.injEq,true_and,Bool.false_and,exists_eq']
end Go.Proofs.Ytkimloceaihplaa.Ai
