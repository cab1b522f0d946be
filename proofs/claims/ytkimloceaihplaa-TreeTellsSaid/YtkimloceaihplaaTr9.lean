/- Trees: their text. -/
import Derived.Test.YtkimloceaihplaaTr8
namespace Go.Proofs.Ytkimloceaihplaa.Ai
open Go Go.Proofs
set_option linter.unusedVariables false
set_option linter.unusedSimpArgs false
set_option maxRecDepth 10000
set_option maxHeartbeats 4000000

structure NamesOk (g : GramD) : Prop where
  terms : ∀ s ∈ g.terms, s.length ≤ 140737488351232
  nonterms : ∀ s ∈ g.nonterms, s.length ≤ 140737488351232

theorem symName_len (g : GramD) (hn : NamesOk g) (s : Int) : (symName g s).length ≤ 140737488351232 := by
  have key : ∀ (l : List Str) (i : Nat), (∀ s ∈ l, s.length ≤ 140737488351232) → (l.getD i []).length ≤ 140737488351232 := by
    intro l i h
    rw [List.getD_eq_getElem?_getD]
    cases e : l[i]? with
    | none => simp
    | some x => exact h x (List.mem_of_getElem? e)
  unfold symName
  split
  · simp
  · split
    · exact key _ _ hn.nonterms
    · exact key _ _ hn.terms

mutual
theorem showT_len (g : GramD) (hn : NamesOk g) : ∀ t, (showT g t).length + 1 ≤ sizeN t * 200000000000000
  | .node s r ks => by
    have h1 := symName_len g hn s
    have h2 := showTs_len g hn ks
    simp only [showT,sizeN]
    split
    · omega
    · simp only [List.length_append,List.length_cons,List.length_nil]; omega
theorem showTs_len (g : GramD) (hn : NamesOk g) : ∀ ks, (showTs g ks).length ≤ sizeNs ks * 200000000000000
  | [] => by simp [showTs]
  | t :: r => by
    have h1 := showT_len g hn t
    have h2 := showTs_len g hn r
    simp only [showTs,sizeNs,List.length_append,List.length_cons,List.length_nil]; omega
end

theorem ix_name (h : AHeap) (l : List Str) (i : Nat) (hi : i < l.length) : aindexAddr h 1 (.vsl false (eSs l)) (.int .i64 i) = some (.vptr (eS (l.getD i [])) 0) := by
  rw [ix_eSs h false l .i64 i hi]
  simp [List.getD_eq_getElem?_getD, hi]

theorem f_Sym (g : GramD) (hg : g.Ok) (s : Int) (hs : inI64 s) (H : AHeap) : lim G0.cfg (.func 38) [.agg (eGram g), .int .i64 s] H = some (.str (symName g s), H) := by
  refine lim_flat rfl rfl P_grammar_Sym 1 (fun h => fz_2 (fz_gram g h) rfl) ?_ (fun _ => rfl) H
  have tt := f_there g hg s
  have hw : IntKind.i64.wrap (-1 - s) = -1 - s := by obtain ⟨a, b⟩ := hs; exact w64 (by omega) (by omega)
  rw [R_grammar_Sym]
  unfold symName
  cases q : isSym g s
  case false =>
    rw [q] at tt
    simp only [Zaa,Zab,Zac,Zad,Zae,Zaf,Zag,Zah,Zai,Zaj,Zak,Zal,Zam,Zan,Zao,Zap,Zaq,Zar,Zas,Zat,Zau,Zav,Zaw,Zax,Zay,Zaz,Zba,Zbb,Zbc,Zbd,Zbe,Zbf,Zbg,Zbh,Zbi,Zbj,Zbk,Zbl,Zbm,Zbn,Zbo,Zbp,Zbq,Zbr,Zbs,Zbt,Zbu,Zbv,Zbw,Zbx,Zby,Zbz,Zca,Zcb,Zcc,Zcd,Zce,Zcf,Zcg,Zch,Zci,Zcj,Zck,Zcl,Zcm,Zcn,Zco,Zcp,Zcq,Zcr,Zcs,Zct,Zcu,Zcv,Zcw,Zcx,Zcy,Zcz,Zda,Zdb,Zdc,List.set_cons_zero,List.set_cons_succ,List.getD_cons_zero,List.getD_cons_succ,Option.elim_some,Option.bind_some,Option.map_some,Nat.reduceBEq,Zdd,Zde,Zdf,Zdg,Zdh,Zdi,Zdj,Zdk,Zdl,Zdm,Zdn,Zdo,Zdp,Zdq,Zdr,Zds,Zdt,Zdu,Zdv,Zdw,Zdx,Zdy,Zdz,Zea,Zeb,Zec,Zed,Zee,Zef,Zeg,Zeh,Zei,Zej,Zek,Zel,Zem,Zen,Zeo,Zep,decide_true,decide_false,Bool.not_true,Bool.not_false,List.getElem?_cons_zero,List.getElem?_cons_succ,List.length_cons,List.length_nil,if_true,if_false,reduceIte,Nat.reduceAdd,Nat.reduceSub,Nat.reduceLeDiff,Nat.reduceEqDiff,Int.reduceNeg,Int.reduceLT,Int.reduceLE,Int.reduceEq,eq_self,and_self,and_true,true_and,and_false,false_and,not_true_eq_false,not_false_eq_true,cond_true,cond_false,List.length_map,List.length_cons,List.length_nil,List.replicate_succ,List.replicate_zero,List.cons_append,List.nil_append,aload,acells,getArr,part,eI,eS,astore,putCells,get_new,set_new,List.all_cons,List.all_nil,cellOk,Bool.and_self,List.drop_zero,List.drop_succ_cons,List.take_succ_cons,List.take_zero,List.take_nil,List.cons_append,List.nil_append,List.set_cons_zero,tt,resAll,resVals,resVal,Option.some.injEq,Prod.mk.injEq,true_and,and_true,Bool.true_and,Bool.false_and,Bool.and_true,Bool.and_false,Bool.true_or,Bool.false_or,Bool.or_true,Bool.or_false,exists_eq',exists_const]
  case true =>
  rw [q] at tt
  simp only [isSym,Bool.and_eq_true,decide_eq_true_eq] at q
  by_cases q1 : s < 0
  case pos =>
    obtain ⟨k, hk⟩ : ∃ k : Nat, -1 - s = k := ⟨(-1 - s).toNat, by omega⟩
    have hi := fun h => ix_name h g.nonterms k (by omega)
    have hk2 : (-1 - s).toNat = k := by omega
    replace hw := hw.trans hk
    simp only [Zaa,Zab,Zac,Zad,Zae,Zaf,Zag,Zah,Zai,Zaj,Zak,Zal,Zam,Zan,Zao,Zap,Zaq,Zar,Zas,Zat,Zau,Zav,Zaw,Zax,Zay,Zaz,Zba,Zbb,Zbc,Zbd,Zbe,Zbf,Zbg,Zbh,Zbi,Zbj,Zbk,Zbl,Zbm,Zbn,Zbo,Zbp,Zbq,Zbr,Zbs,Zbt,Zbu,Zbv,Zbw,Zbx,Zby,Zbz,Zca,Zcb,Zcc,Zcd,Zce,Zcf,Zcg,Zch,Zci,Zcj,Zck,Zcl,Zcm,Zcn,Zco,Zcp,Zcq,Zcr,Zcs,Zct,Zcu,Zcv,Zcw,Zcx,Zcy,Zcz,Zda,Zdb,Zdc,List.set_cons_zero,List.set_cons_succ,List.getD_cons_zero,List.getD_cons_succ,Option.elim_some,Option.bind_some,Option.map_some,Nat.reduceBEq,Zdd,Zde,Zdf,Zdg,Zdh,Zdi,Zdj,Zdk,Zdl,Zdm,Zdn,Zdo,Zdp,Zdq,Zdr,Zds,Zdt,Zdu,Zdv,Zdw,Zdx,Zdy,Zdz,Zea,Zeb,Zec,Zed,Zee,Zef,Zeg,Zeh,Zei,Zej,Zek,Zel,Zem,Zen,Zeo,Zep,decide_true,decide_false,Bool.not_true,Bool.not_false,List.getElem?_cons_zero,List.getElem?_cons_succ,List.length_cons,List.length_nil,if_true,if_false,reduceIte,Nat.reduceAdd,Nat.reduceSub,Nat.reduceLeDiff,Nat.reduceEqDiff,Int.reduceNeg,Int.reduceLT,Int.reduceLE,Int.reduceEq,eq_self,and_self,and_true,true_and,and_false,false_and,not_true_eq_false,not_false_eq_true,cond_true,cond_false,List.length_map,List.length_cons,List.length_nil,List.replicate_succ,List.replicate_zero,List.cons_append,List.nil_append,aload,acells,getArr,part,eI,eS,astore,putCells,get_new,set_new,List.all_cons,List.all_nil,cellOk,Bool.and_self,List.drop_zero,List.drop_succ_cons,List.take_succ_cons,List.take_zero,List.take_nil,List.cons_append,List.nil_append,List.set_cons_zero,tt,q1,hw,hi,hk2,resAll,resVals,resVal,Option.some.injEq,Prod.mk.injEq,true_and,and_true,Bool.true_and,Bool.false_and,Bool.and_true,Bool.and_false,Bool.true_or,Bool.false_or,Bool.or_true,Bool.or_false,exists_eq',exists_const,Bool.true_eq_false]
  case neg =>
    obtain ⟨k, rfl⟩ : ∃ k : Nat, s = k := ⟨s.toNat, by omega⟩
    have hi := fun h => ix_name h g.terms k (by omega)
    simp only [Zaa,Zab,Zac,Zad,Zae,Zaf,Zag,Zah,Zai,Zaj,Zak,Zal,Zam,Zan,Zao,Zap,Zaq,Zar,Zas,Zat,Zau,Zav,Zaw,Zax,Zay,Zaz,Zba,Zbb,Zbc,Zbd,Zbe,Zbf,Zbg,Zbh,Zbi,Zbj,Zbk,Zbl,Zbm,Zbn,Zbo,Zbp,Zbq,Zbr,Zbs,Zbt,Zbu,Zbv,Zbw,Zbx,Zby,Zbz,Zca,Zcb,Zcc,Zcd,Zce,Zcf,Zcg,Zch,Zci,Zcj,Zck,Zcl,Zcm,Zcn,Zco,Zcp,Zcq,Zcr,Zcs,Zct,Zcu,Zcv,Zcw,Zcx,Zcy,Zcz,Zda,Zdb,Zdc,List.set_cons_zero,List.set_cons_succ,List.getD_cons_zero,List.getD_cons_succ,Option.elim_some,Option.bind_some,Option.map_some,Nat.reduceBEq,Zdd,Zde,Zdf,Zdg,Zdh,Zdi,Zdj,Zdk,Zdl,Zdm,Zdn,Zdo,Zdp,Zdq,Zdr,Zds,Zdt,Zdu,Zdv,Zdw,Zdx,Zdy,Zdz,Zea,Zeb,Zec,Zed,Zee,Zef,Zeg,Zeh,Zei,Zej,Zek,Zel,Zem,Zen,Zeo,Zep,decide_true,decide_false,Bool.not_true,Bool.not_false,List.getElem?_cons_zero,List.getElem?_cons_succ,List.length_cons,List.length_nil,if_true,if_false,reduceIte,Nat.reduceAdd,Nat.reduceSub,Nat.reduceLeDiff,Nat.reduceEqDiff,Int.reduceNeg,Int.reduceLT,Int.reduceLE,Int.reduceEq,eq_self,and_self,and_true,true_and,and_false,false_and,not_true_eq_false,not_false_eq_true,cond_true,cond_false,List.length_map,List.length_cons,List.length_nil,List.replicate_succ,List.replicate_zero,List.cons_append,List.nil_append,aload,acells,getArr,part,eI,eS,astore,putCells,get_new,set_new,List.all_cons,List.all_nil,cellOk,Bool.and_self,List.drop_zero,List.drop_succ_cons,List.take_succ_cons,List.take_zero,List.take_nil,List.cons_append,List.nil_append,List.set_cons_zero,tt,q1,hi,Int.toNat_natCast,resAll,resVals,resVal,Option.some.injEq,Prod.mk.injEq,true_and,and_true,Bool.true_and,Bool.false_and,Bool.and_true,Bool.and_false,Bool.true_or,Bool.false_or,Bool.or_true,Bool.or_false,exists_eq',exists_const,Bool.true_eq_false]

theorem r_Sym (g : GramD) (hg : g.Ok) (s : Int) (hs : inI64 s) (H : AHeap) : lim G0.cfg (.func 77) [.agg (eGram g), .int .i64 s] H = some (.str (symName g s), H) := by
  refine lim_flat rfl rfl P_r15_Sym 1 (fun h => fz_2 (fz_gram g h) rfl) ?_ (fun _ => rfl) H
  have tt := f_Is g hg s
  have hw : IntKind.i64.wrap (-1 - s) = -1 - s := by obtain ⟨a, b⟩ := hs; exact w64 (by omega) (by omega)
  rw [R_r15_Sym]
  unfold symName
  cases q : isSym g s
  case false =>
    rw [q] at tt
    simp only [Zaa,Zab,Zac,Zad,Zae,Zaf,Zag,Zah,Zai,Zaj,Zak,Zal,Zam,Zan,Zao,Zap,Zaq,Zar,Zas,Zat,Zau,Zav,Zaw,Zax,Zay,Zaz,Zba,Zbb,Zbc,Zbd,Zbe,Zbf,Zbg,Zbh,Zbi,Zbj,Zbk,Zbl,Zbm,Zbn,Zbo,Zbp,Zbq,Zbr,Zbs,Zbt,Zbu,Zbv,Zbw,Zbx,Zby,Zbz,Zca,Zcb,Zcc,Zcd,Zce,Zcf,Zcg,Zch,Zci,Zcj,Zck,Zcl,Zcm,Zcn,Zco,Zcp,Zcq,Zcr,Zcs,Zct,Zcu,Zcv,Zcw,Zcx,Zcy,Zcz,Zda,Zdb,Zdc,List.set_cons_zero,List.set_cons_succ,List.getD_cons_zero,List.getD_cons_succ,Option.elim_some,Option.bind_some,Option.map_some,Nat.reduceBEq,Zdd,Zde,Zdf,Zdg,Zdh,Zdi,Zdj,Zdk,Zdl,Zdm,Zdn,Zdo,Zdp,Zdq,Zdr,Zds,Zdt,Zdu,Zdv,Zdw,Zdx,Zdy,Zdz,Zea,Zeb,Zec,Zed,Zee,Zef,Zeg,Zeh,Zei,Zej,Zek,Zel,Zem,Zen,Zeo,Zep,decide_true,decide_false,Bool.not_true,Bool.not_false,List.getElem?_cons_zero,List.getElem?_cons_succ,List.length_cons,List.length_nil,if_true,if_false,reduceIte,Nat.reduceAdd,Nat.reduceSub,Nat.reduceLeDiff,Nat.reduceEqDiff,Int.reduceNeg,Int.reduceLT,Int.reduceLE,Int.reduceEq,eq_self,and_self,and_true,true_and,and_false,false_and,not_true_eq_false,not_false_eq_true,cond_true,cond_false,List.length_map,List.length_cons,List.length_nil,List.replicate_succ,List.replicate_zero,List.cons_append,List.nil_append,aload,acells,getArr,part,eI,eS,astore,putCells,get_new,set_new,List.all_cons,List.all_nil,cellOk,Bool.and_self,List.drop_zero,List.drop_succ_cons,List.take_succ_cons,List.take_zero,List.take_nil,List.cons_append,List.nil_append,List.set_cons_zero,tt,resAll,resVals,resVal,Option.some.injEq,Prod.mk.injEq,true_and,and_true,Bool.true_and,Bool.false_and,Bool.and_true,Bool.and_false,Bool.true_or,Bool.false_or,Bool.or_true,Bool.or_false,exists_eq',exists_const]
  case true =>
  rw [q] at tt
  simp only [isSym,Bool.and_eq_true,decide_eq_true_eq] at q
  by_cases q1 : s < 0
  case pos =>
    have q2 : ¬ (0 ≤ s) := by omega
    obtain ⟨k, hk⟩ : ∃ k : Nat, -1 - s = k := ⟨(-1 - s).toNat, by omega⟩
    have hi := fun h => ix_name h g.nonterms k (by omega)
    have hk2 : (-1 - s).toNat = k := by omega
    replace hw := hw.trans hk
    simp only [Zaa,Zab,Zac,Zad,Zae,Zaf,Zag,Zah,Zai,Zaj,Zak,Zal,Zam,Zan,Zao,Zap,Zaq,Zar,Zas,Zat,Zau,Zav,Zaw,Zax,Zay,Zaz,Zba,Zbb,Zbc,Zbd,Zbe,Zbf,Zbg,Zbh,Zbi,Zbj,Zbk,Zbl,Zbm,Zbn,Zbo,Zbp,Zbq,Zbr,Zbs,Zbt,Zbu,Zbv,Zbw,Zbx,Zby,Zbz,Zca,Zcb,Zcc,Zcd,Zce,Zcf,Zcg,Zch,Zci,Zcj,Zck,Zcl,Zcm,Zcn,Zco,Zcp,Zcq,Zcr,Zcs,Zct,Zcu,Zcv,Zcw,Zcx,Zcy,Zcz,Zda,Zdb,Zdc,List.set_cons_zero,List.set_cons_succ,List.getD_cons_zero,List.getD_cons_succ,Option.elim_some,Option.bind_some,Option.map_some,Nat.reduceBEq,Zdd,Zde,Zdf,Zdg,Zdh,Zdi,Zdj,Zdk,Zdl,Zdm,Zdn,Zdo,Zdp,Zdq,Zdr,Zds,Zdt,Zdu,Zdv,Zdw,Zdx,Zdy,Zdz,Zea,Zeb,Zec,Zed,Zee,Zef,Zeg,Zeh,Zei,Zej,Zek,Zel,Zem,Zen,Zeo,Zep,decide_true,decide_false,Bool.not_true,Bool.not_false,List.getElem?_cons_zero,List.getElem?_cons_succ,List.length_cons,List.length_nil,if_true,if_false,reduceIte,Nat.reduceAdd,Nat.reduceSub,Nat.reduceLeDiff,Nat.reduceEqDiff,Int.reduceNeg,Int.reduceLT,Int.reduceLE,Int.reduceEq,eq_self,and_self,and_true,true_and,and_false,false_and,not_true_eq_false,not_false_eq_true,cond_true,cond_false,List.length_map,List.length_cons,List.length_nil,List.replicate_succ,List.replicate_zero,List.cons_append,List.nil_append,aload,acells,getArr,part,eI,eS,astore,putCells,get_new,set_new,List.all_cons,List.all_nil,cellOk,Bool.and_self,List.drop_zero,List.drop_succ_cons,List.take_succ_cons,List.take_zero,List.take_nil,List.cons_append,List.nil_append,List.set_cons_zero,tt,q1,q2,hw,hi,hk2,resAll,resVals,resVal,Option.some.injEq,Prod.mk.injEq,true_and,and_true,Bool.true_and,Bool.false_and,Bool.and_true,Bool.and_false,Bool.true_or,Bool.false_or,Bool.or_true,Bool.or_false,exists_eq',exists_const,Bool.true_eq_false]
  case neg =>
    obtain ⟨k, rfl⟩ : ∃ k : Nat, s = k := ⟨s.toNat, by omega⟩
    have q2 : (0 : Int) ≤ (k : Int) := by omega
    have hi := fun h => ix_name h g.terms k (by omega)
    simp only [Zaa,Zab,Zac,Zad,Zae,Zaf,Zag,Zah,Zai,Zaj,Zak,Zal,Zam,Zan,Zao,Zap,Zaq,Zar,Zas,Zat,Zau,Zav,Zaw,Zax,Zay,Zaz,Zba,Zbb,Zbc,Zbd,Zbe,Zbf,Zbg,Zbh,Zbi,Zbj,Zbk,Zbl,Zbm,Zbn,Zbo,Zbp,Zbq,Zbr,Zbs,Zbt,Zbu,Zbv,Zbw,Zbx,Zby,Zbz,Zca,Zcb,Zcc,Zcd,Zce,Zcf,Zcg,Zch,Zci,Zcj,Zck,Zcl,Zcm,Zcn,Zco,Zcp,Zcq,Zcr,Zcs,Zct,Zcu,Zcv,Zcw,Zcx,Zcy,Zcz,Zda,Zdb,Zdc,List.set_cons_zero,List.set_cons_succ,List.getD_cons_zero,List.getD_cons_succ,Option.elim_some,Option.bind_some,Option.map_some,Nat.reduceBEq,Zdd,Zde,Zdf,Zdg,Zdh,Zdi,Zdj,Zdk,Zdl,Zdm,Zdn,Zdo,Zdp,Zdq,Zdr,Zds,Zdt,Zdu,Zdv,Zdw,Zdx,Zdy,Zdz,Zea,Zeb,Zec,Zed,Zee,Zef,Zeg,Zeh,Zei,Zej,Zek,Zel,Zem,Zen,Zeo,Zep,decide_true,decide_false,Bool.not_true,Bool.not_false,List.getElem?_cons_zero,List.getElem?_cons_succ,List.length_cons,List.length_nil,if_true,if_false,reduceIte,Nat.reduceAdd,Nat.reduceSub,Nat.reduceLeDiff,Nat.reduceEqDiff,Int.reduceNeg,Int.reduceLT,Int.reduceLE,Int.reduceEq,eq_self,and_self,and_true,true_and,and_false,false_and,not_true_eq_false,not_false_eq_true,cond_true,cond_false,List.length_map,List.length_cons,List.length_nil,List.replicate_succ,List.replicate_zero,List.cons_append,List.nil_append,aload,acells,getArr,part,eI,eS,astore,putCells,get_new,set_new,List.all_cons,List.all_nil,cellOk,Bool.and_self,List.drop_zero,List.drop_succ_cons,List.take_succ_cons,List.take_zero,List.take_nil,List.cons_append,List.nil_append,List.set_cons_zero,tt,q1,q2,hi,Int.toNat_natCast,resAll,resVals,resVal,Option.some.injEq,Prod.mk.injEq,true_and,and_true,Bool.true_and,Bool.false_and,Bool.and_true,Bool.and_false,Bool.true_or,Bool.false_or,Bool.or_true,Bool.or_false,exists_eq',exists_const,Bool.true_eq_false]

abbrev told : AV := .fn (.func 37) [] [.ptr 0 0 0 0, .ptr 2 0 0 0]

theorem f_told (g : GramD) (hg : g.Ok) (hn : NamesOk g) : ∀ t, okT t → sizeN t ≤ 1000 → ∀ h, h[0]? = some (.arr 0 5 true [eGram g]) → h[2]? = some (.arr 0 1 true [[told]]) →
    ∃ l, lim G0.cfg (.func 37) [.agg (cT t), .ptr 0 0 0 0, .ptr 2 0 0 0] h = some (.str (showT g t), h ++ l) := by
  intro t
  induction t using T.ind with
  | _ s r ks ih =>
  intro hok hN h h0 h2
  obtain ⟨hs, hr, hlen, hoks⟩ := id hok
  rw [maxLen_eq] at hlen
  have hsz : sizeN (.node s r ks) = 1 + sizeNs ks := by simp [sizeN]
  have hsy := f_Sym g hg s hs
  have hnl := symName_len g hn s
  by_cases q : r = -1
  case pos =>
    subst q
    refine ⟨[.arr 0 3 true [[.int .i64 s, .int .i64 (-1), .vsl false (ks.map cT)]]], lim_func rfl P_tree_Show_1 1 ?_⟩
    have e0 := get_app h0 [.arr 0 3 true [[.int .i64 s, .int .i64 (-1), .vsl false (ks.map cT)]]]
    rw [R_tree_Show_1]
    simp only [Zaa,Zab,Zac,Zad,Zae,Zaf,Zag,Zah,Zai,Zaj,Zak,Zal,Zam,Zan,Zao,Zap,Zaq,Zar,Zas,Zat,Zau,Zav,Zaw,Zax,Zay,Zaz,Zba,Zbb,Zbc,Zbd,Zbe,Zbf,Zbg,Zbh,Zbi,Zbj,Zbk,Zbl,Zbm,Zbn,Zbo,Zbp,Zbq,Zbr,Zbs,Zbt,Zbu,Zbv,Zbw,Zbx,Zby,Zbz,Zca,Zcb,Zcc,Zcd,Zce,Zcf,Zcg,Zch,Zci,Zcj,Zck,Zcl,Zcm,Zcn,Zco,Zcp,Zcq,Zcr,Zcs,Zct,Zcu,Zcv,Zcw,Zcx,Zcy,Zcz,Zda,Zdb,Zdc,List.set_cons_zero,List.set_cons_succ,List.getD_cons_zero,List.getD_cons_succ,Option.elim_some,Option.bind_some,Option.map_some,Nat.reduceBEq,Zdd,Zde,Zdf,Zdg,Zdh,Zdi,Zdj,Zdk,Zdl,Zdm,Zdn,Zdo,Zdp,Zdq,Zdr,Zds,Zdt,Zdu,Zdv,Zdw,Zdx,Zdy,Zdz,Zea,Zeb,Zec,Zed,Zee,Zef,Zeg,Zeh,Zei,Zej,Zek,Zel,Zem,Zen,Zeo,Zep,decide_true,decide_false,Bool.not_true,Bool.not_false,List.getElem?_cons_zero,List.getElem?_cons_succ,List.length_cons,List.length_nil,if_true,if_false,reduceIte,Nat.reduceAdd,Nat.reduceSub,Nat.reduceLeDiff,Nat.reduceEqDiff,Int.reduceNeg,Int.reduceLT,Int.reduceLE,Int.reduceEq,eq_self,and_self,and_true,true_and,and_false,false_and,not_true_eq_false,not_false_eq_true,cond_true,cond_false,List.length_map,List.length_cons,List.length_nil,List.replicate_succ,List.replicate_zero,List.cons_append,List.nil_append,aload,acells,getArr,part,eI,eS,astore,putCells,get_new,set_new,List.all_cons,List.all_nil,cellOk,Bool.and_self,List.drop_zero,List.drop_succ_cons,List.take_succ_cons,List.take_zero,List.take_nil,List.cons_append,List.nil_append,List.set_cons_zero,cT,cTs_map,e0,hsy,showT,resAll,resVals,resVal,Option.some.injEq,Prod.mk.injEq,true_and,and_true,Bool.true_and,Bool.false_and,Bool.and_true,Bool.and_false,Bool.true_or,Bool.false_or,Bool.or_true,Bool.or_false,exists_eq',exists_const]
  case neg =>
  have loop : ∀ (d i m : Nat) (acc : Str) (h : AHeap), ks.length = i + d → d < m → acc.length + sizeNs (ks.drop i) * 200000000000000 ≤ 1000000000000000000 → h[0]? = some (.arr 0 5 true [eGram g]) → h[2]? = some (.arr 0 1 true [[told]]) → ∃ l,
      loopN (evalCode (lim G0.cfg) (ks.length + 1) B_tree_Show_1_0) m ⟨[.junk,.junk, .ptr 2 0 0 0, .junk,.junk, .str acc, .junk,.junk,.junk,.junk,.junk,.junk,.junk,.junk,.junk,.junk,.junk, .vsl false (ks.map cT), .int .i64 ks.length, .int .i64 i, .junk,.junk,.junk,.junk,.junk,.junk,.junk,.junk,.junk,.junk,.junk,.junk,.junk], h⟩ =
        some (.exit 0, ⟨[.junk,.junk,.junk,.junk,.junk, .str (acc ++ showTs g (ks.drop i)), .junk,.junk,.junk,.junk,.junk,.junk,.junk,.junk,.junk,.junk,.junk,.junk,.junk,.junk,.junk,.junk,.junk,.junk,.junk,.junk,.junk,.junk,.junk,.junk,.junk,.junk,.junk], h ++ l⟩) := by
    intro d
    induction d with
    | zero =>
      intro i m acc h h1 h3 h4 h0 h2
      obtain ⟨m, rfl⟩ : ∃ q, m = q + 1 := ⟨m - 1, by omega⟩
      have e1 : ks.drop i = [] := List.drop_eq_nil_iff.2 (by omega)
      have h5 : ¬ ((i : Int) < ks.length) := by omega
      rw [e1]
      exact ⟨[], by simp only [loop_e,EB_tree_Show_1_0,Zaa,Zab,Zac,Zad,Zae,Zaf,Zag,Zah,Zai,Zaj,Zak,Zal,Zam,Zan,Zao,Zap,Zaq,Zar,Zas,Zat,Zau,Zav,Zaw,Zax,Zay,Zaz,Zba,Zbb,Zbc,Zbd,Zbe,Zbf,Zbg,Zbh,Zbi,Zbj,Zbk,Zbl,Zbm,Zbn,Zbo,Zbp,Zbq,Zbr,Zbs,Zbt,Zbu,Zbv,Zbw,Zbx,Zby,Zbz,Zca,Zcb,Zcc,Zcd,Zce,Zcf,Zcg,Zch,Zci,Zcj,Zck,Zcl,Zcm,Zcn,Zco,Zcp,Zcq,Zcr,Zcs,Zct,Zcu,Zcv,Zcw,Zcx,Zcy,Zcz,Zda,Zdb,Zdc,List.set_cons_zero,List.set_cons_succ,List.getD_cons_zero,List.getD_cons_succ,Option.elim_some,Option.bind_some,Option.map_some,Nat.reduceBEq,Zdd,Zde,Zdf,Zdg,Zdh,Zdi,Zdj,Zdk,Zdl,Zdm,Zdn,Zdo,Zdp,Zdq,Zdr,Zds,Zdt,Zdu,Zdv,Zdw,Zdx,Zdy,Zdz,Zea,Zeb,Zec,Zed,Zee,Zef,Zeg,Zeh,Zei,Zej,Zek,Zel,Zem,Zen,Zeo,Zep,decide_true,decide_false,Bool.not_true,Bool.not_false,List.getElem?_cons_zero,List.getElem?_cons_succ,List.length_cons,List.length_nil,if_true,if_false,reduceIte,Nat.reduceAdd,Nat.reduceSub,Nat.reduceLeDiff,Nat.reduceEqDiff,Int.reduceNeg,Int.reduceLT,Int.reduceLE,Int.reduceEq,eq_self,and_self,and_true,true_and,and_false,false_and,not_true_eq_false,not_false_eq_true,cond_true,cond_false,List.length_map,h5,showTs,List.append_nil]⟩
    | succ d ihd =>
      intro i m acc h h1 h3 h4 h0 h2
      obtain ⟨m, rfl⟩ : ∃ q, m = q + 1 := ⟨m - 1, by omega⟩
      have h5 : i < ks.length := by omega
      have h5' : (i : Int) < ks.length := by omega
      have e1 : ks.drop i = ks[i] :: ks.drop (i + 1) := List.drop_eq_getElem_cons h5
      have hw := w64s (n := i) (by omega)
      have hmem : ks[i] ∈ ks := List.getElem_mem h5
      have hkn := sizeNs_mem hmem
      have hk := cT_eq ks[i]
      have e0 := get_app h0 [.arr 0 3 true [[.int .i64 (ks[i]).sym, .int .i64 (ks[i]).rule, .vsl false ((ks[i]).kids.map cT)]]]
      have e2 := get_app h2 [.arr 0 3 true [[.int .i64 (ks[i]).sym, .int .i64 (ks[i]).rule, .vsl false ((ks[i]).kids.map cT)]]]
      obtain ⟨l1, hc⟩ := ih ks[i] hmem (okTs_mem hoks hmem) (by omega) _ e0 e2
      have ii := fun h => ix_tree h false ks .i64 i h5
      simp only [hk] at hc ii
      rw [e1] at h4 ⊢
      simp only [sizeNs] at h4
      have hsl := showT_len g hn ks[i]
      have p1 := fun q => as_add q [32] (showT g ks[i]) (by simp; omega)
      have p2 := fun q => as_add q acc ([32] ++ showT g ks[i]) (by simp; omega)
      obtain ⟨l2, e⟩ := ihd (i + 1) m (acc ++ ([32] ++ showT g ks[i])) (h ++ [.arr 0 3 true [[.int .i64 (ks[i]).sym, .int .i64 (ks[i]).rule, .vsl false ((ks[i]).kids.map cT)]]] ++ l1) (by omega) (by omega) (by simp only [List.length_append,List.length_cons,List.length_nil]; omega) (get_app e0 _) (get_app e2 _)
      refine ⟨[.arr 0 3 true [[.int .i64 (ks[i]).sym, .int .i64 (ks[i]).rule, .vsl false ((ks[i]).kids.map cT)]]] ++ l1 ++ l2, ?_⟩
      have es : acc ++ showTs g (ks[i] :: ks.drop (i + 1)) = acc ++ ([32] ++ showT g ks[i]) ++ showTs g (ks.drop (i + 1)) := by simp [showTs]
      rw [es, show h ++ ([.arr 0 3 true [[.int .i64 (ks[i]).sym, .int .i64 (ks[i]).rule, .vsl false ((ks[i]).kids.map cT)]]] ++ l1 ++ l2) = h ++ [.arr 0 3 true [[.int .i64 (ks[i]).sym, .int .i64 (ks[i]).rule, .vsl false ((ks[i]).kids.map cT)]]] ++ l1 ++ l2 by simp, ← e]
      simp only [List.cons_append,List.nil_append] at p1 p2 hc ⊢
      simp only [loop_e,EB_tree_Show_1_0,Zaa,Zab,Zac,Zad,Zae,Zaf,Zag,Zah,Zai,Zaj,Zak,Zal,Zam,Zan,Zao,Zap,Zaq,Zar,Zas,Zat,Zau,Zav,Zaw,Zax,Zay,Zaz,Zba,Zbb,Zbc,Zbd,Zbe,Zbf,Zbg,Zbh,Zbi,Zbj,Zbk,Zbl,Zbm,Zbn,Zbo,Zbp,Zbq,Zbr,Zbs,Zbt,Zbu,Zbv,Zbw,Zbx,Zby,Zbz,Zca,Zcb,Zcc,Zcd,Zce,Zcf,Zcg,Zch,Zci,Zcj,Zck,Zcl,Zcm,Zcn,Zco,Zcp,Zcq,Zcr,Zcs,Zct,Zcu,Zcv,Zcw,Zcx,Zcy,Zcz,Zda,Zdb,Zdc,List.set_cons_zero,List.set_cons_succ,List.getD_cons_zero,List.getD_cons_succ,Option.elim_some,Option.bind_some,Option.map_some,Nat.reduceBEq,Zdd,Zde,Zdf,Zdg,Zdh,Zdi,Zdj,Zdk,Zdl,Zdm,Zdn,Zdo,Zdp,Zdq,Zdr,Zds,Zdt,Zdu,Zdv,Zdw,Zdx,Zdy,Zdz,Zea,Zeb,Zec,Zed,Zee,Zef,Zeg,Zeh,Zei,Zej,Zek,Zel,Zem,Zen,Zeo,Zep,decide_true,decide_false,Bool.not_true,Bool.not_false,List.getElem?_cons_zero,List.getElem?_cons_succ,List.length_cons,List.length_nil,if_true,if_false,reduceIte,Nat.reduceAdd,Nat.reduceSub,Nat.reduceLeDiff,Nat.reduceEqDiff,Int.reduceNeg,Int.reduceLT,Int.reduceLE,Int.reduceEq,eq_self,and_self,and_true,true_and,and_false,false_and,not_true_eq_false,not_false_eq_true,cond_true,cond_false,List.length_map,aload,acells,getArr,part,eI,eS,astore,putCells,get_new,set_new,List.all_cons,List.all_nil,cellOk,Bool.and_self,List.drop_zero,List.drop_succ_cons,List.take_succ_cons,List.take_zero,List.take_nil,List.cons_append,List.nil_append,List.set_cons_zero,h5',ii,e2,hc,p1,p2,hw]
  have e0 := get_app h0 [.arr 0 3 true [[.int .i64 s, .int .i64 r, .vsl false (ks.map cT)]]]
  have e2 := get_app h2 [.arr 0 3 true [[.int .i64 s, .int .i64 r, .vsl false (ks.map cT)]]]
  obtain ⟨l, e⟩ := loop ks.length 0 (ks.length + 1) (symName g s) (h ++ [.arr 0 3 true [[.int .i64 s, .int .i64 r, .vsl false (ks.map cT)]]]) (by omega) (by omega) (by rw [List.drop_zero]; omega) e0 e2
  rw [List.drop_zero, z0] at e
  have hsl := showTs_len g hn ks
  have p1 := fun q => as_add q [40] (symName g s ++ showTs g ks) (by simp; omega)
  have p2 := fun q => as_add q ([40] ++ (symName g s ++ showTs g ks)) [41] (by simp; omega)
  refine ⟨[.arr 0 3 true [[.int .i64 s, .int .i64 r, .vsl false (ks.map cT)]]] ++ l, lim_func rfl P_tree_Show_1 (ks.length + 1) ?_⟩
  have es : showT g (.node s r ks) = [40] ++ (symName g s ++ showTs g ks) ++ [41] := by simp [showT, q]
  rw [es, R_tree_Show_1]
  simp only [List.append_assoc,List.cons_append,List.nil_append] at p1 p2 e ⊢
  simp only [Zaa,Zab,Zac,Zad,Zae,Zaf,Zag,Zah,Zai,Zaj,Zak,Zal,Zam,Zan,Zao,Zap,Zaq,Zar,Zas,Zat,Zau,Zav,Zaw,Zax,Zay,Zaz,Zba,Zbb,Zbc,Zbd,Zbe,Zbf,Zbg,Zbh,Zbi,Zbj,Zbk,Zbl,Zbm,Zbn,Zbo,Zbp,Zbq,Zbr,Zbs,Zbt,Zbu,Zbv,Zbw,Zbx,Zby,Zbz,Zca,Zcb,Zcc,Zcd,Zce,Zcf,Zcg,Zch,Zci,Zcj,Zck,Zcl,Zcm,Zcn,Zco,Zcp,Zcq,Zcr,Zcs,Zct,Zcu,Zcv,Zcw,Zcx,Zcy,Zcz,Zda,Zdb,Zdc,List.set_cons_zero,List.set_cons_succ,List.getD_cons_zero,List.getD_cons_succ,Option.elim_some,Option.bind_some,Option.map_some,Nat.reduceBEq,Zdd,Zde,Zdf,Zdg,Zdh,Zdi,Zdj,Zdk,Zdl,Zdm,Zdn,Zdo,Zdp,Zdq,Zdr,Zds,Zdt,Zdu,Zdv,Zdw,Zdx,Zdy,Zdz,Zea,Zeb,Zec,Zed,Zee,Zef,Zeg,Zeh,Zei,Zej,Zek,Zel,Zem,Zen,Zeo,Zep,decide_true,decide_false,Bool.not_true,Bool.not_false,List.getElem?_cons_zero,List.getElem?_cons_succ,List.length_cons,List.length_nil,if_true,if_false,reduceIte,Nat.reduceAdd,Nat.reduceSub,Nat.reduceLeDiff,Nat.reduceEqDiff,Int.reduceNeg,Int.reduceLT,Int.reduceLE,Int.reduceEq,eq_self,and_self,and_true,true_and,and_false,false_and,not_true_eq_false,not_false_eq_true,cond_true,cond_false,List.length_map,List.length_cons,List.length_nil,List.replicate_succ,List.replicate_zero,List.cons_append,List.nil_append,aload,acells,getArr,part,eI,eS,astore,putCells,get_new,set_new,List.all_cons,List.all_nil,cellOk,Bool.and_self,List.drop_zero,List.drop_succ_cons,List.take_succ_cons,List.take_zero,List.take_nil,List.cons_append,List.nil_append,List.set_cons_zero,cT,cTs_map,e0,hsy,q,e,p1,p2,resAll,resVals,resVal,Option.some.injEq,Prod.mk.injEq,true_and,and_true,Bool.true_and,Bool.false_and,Bool.and_true,Bool.and_false,Bool.true_or,Bool.false_or,Bool.or_true,Bool.or_false,exists_eq',exists_const]

theorem f_Show (g : GramD) (hg : g.Ok) (hn : NamesOk g) (t : T) (ht : okT t) (hN : sizeN t ≤ 1000) (H : AHeap) : lim G0.cfg (.func 21) [.agg (eGram g), .agg (cT t)] H = some (.str (if treeOk g t = true then showT g t else []), H) := by
  refine lim_flat rfl rfl P_tree_Show 1 (fun h => fz_2 (fz_gram g h) (fz_tree t h)) ?_ (fun _ => rfl) H
  have c1 := f_tRight g hg t ht (by omega)
  obtain ⟨l, c2⟩ := f_told g hg hn t ht hN [.arr 0 5 true [eGram g], .arr 0 3 true [cT t], .arr 0 1 true [[told]]] rfl rfl
  have hct := cT_len t
  have htk : List.take 3 (cT t) = cT t := List.take_of_length_le (Nat.le_of_eq hct)
  rw [R_tree_Show]
  cases q : treeOk g t
  · rw [q] at c1
    simp only [Zaa,Zab,Zac,Zad,Zae,Zaf,Zag,Zah,Zai,Zaj,Zak,Zal,Zam,Zan,Zao,Zap,Zaq,Zar,Zas,Zat,Zau,Zav,Zaw,Zax,Zay,Zaz,Zba,Zbb,Zbc,Zbd,Zbe,Zbf,Zbg,Zbh,Zbi,Zbj,Zbk,Zbl,Zbm,Zbn,Zbo,Zbp,Zbq,Zbr,Zbs,Zbt,Zbu,Zbv,Zbw,Zbx,Zby,Zbz,Zca,Zcb,Zcc,Zcd,Zce,Zcf,Zcg,Zch,Zci,Zcj,Zck,Zcl,Zcm,Zcn,Zco,Zcp,Zcq,Zcr,Zcs,Zct,Zcu,Zcv,Zcw,Zcx,Zcy,Zcz,Zda,Zdb,Zdc,List.set_cons_zero,List.set_cons_succ,List.getD_cons_zero,List.getD_cons_succ,Option.elim_some,Option.bind_some,Option.map_some,Nat.reduceBEq,Zdd,Zde,Zdf,Zdg,Zdh,Zdi,Zdj,Zdk,Zdl,Zdm,Zdn,Zdo,Zdp,Zdq,Zdr,Zds,Zdt,Zdu,Zdv,Zdw,Zdx,Zdy,Zdz,Zea,Zeb,Zec,Zed,Zee,Zef,Zeg,Zeh,Zei,Zej,Zek,Zel,Zem,Zen,Zeo,Zep,decide_true,decide_false,Bool.not_true,Bool.not_false,List.getElem?_cons_zero,List.getElem?_cons_succ,List.length_cons,List.length_nil,if_true,if_false,reduceIte,Nat.reduceAdd,Nat.reduceSub,Nat.reduceLeDiff,Nat.reduceEqDiff,Int.reduceNeg,Int.reduceLT,Int.reduceLE,Int.reduceEq,eq_self,and_self,and_true,true_and,and_false,false_and,not_true_eq_false,not_false_eq_true,cond_true,cond_false,List.length_map,List.length_cons,List.length_nil,List.replicate_succ,List.replicate_zero,List.cons_append,List.nil_append,aload,acells,getArr,part,eI,eS,astore,putCells,get_new,set_new,List.all_cons,List.all_nil,cellOk,Bool.and_self,List.drop_zero,List.drop_succ_cons,List.take_succ_cons,List.take_zero,List.take_nil,List.cons_append,List.nil_append,List.set_cons_zero,hct,htk,c1,resAll,resVals,resVal,Option.some.injEq,Prod.mk.injEq,true_and,and_true,Bool.true_and,Bool.false_and,Bool.and_true,Bool.and_false,Bool.true_or,Bool.false_or,Bool.or_true,Bool.or_false,exists_eq',exists_const,Bool.false_eq_true]
  · rw [q] at c1
    simp only [List.cons_append,List.nil_append] at c2
    simp only [Zaa,Zab,Zac,Zad,Zae,Zaf,Zag,Zah,Zai,Zaj,Zak,Zal,Zam,Zan,Zao,Zap,Zaq,Zar,Zas,Zat,Zau,Zav,Zaw,Zax,Zay,Zaz,Zba,Zbb,Zbc,Zbd,Zbe,Zbf,Zbg,Zbh,Zbi,Zbj,Zbk,Zbl,Zbm,Zbn,Zbo,Zbp,Zbq,Zbr,Zbs,Zbt,Zbu,Zbv,Zbw,Zbx,Zby,Zbz,Zca,Zcb,Zcc,Zcd,Zce,Zcf,Zcg,Zch,Zci,Zcj,Zck,Zcl,Zcm,Zcn,Zco,Zcp,Zcq,Zcr,Zcs,Zct,Zcu,Zcv,Zcw,Zcx,Zcy,Zcz,Zda,Zdb,Zdc,List.set_cons_zero,List.set_cons_succ,List.getD_cons_zero,List.getD_cons_succ,Option.elim_some,Option.bind_some,Option.map_some,Nat.reduceBEq,Zdd,Zde,Zdf,Zdg,Zdh,Zdi,Zdj,Zdk,Zdl,Zdm,Zdn,Zdo,Zdp,Zdq,Zdr,Zds,Zdt,Zdu,Zdv,Zdw,Zdx,Zdy,Zdz,Zea,Zeb,Zec,Zed,Zee,Zef,Zeg,Zeh,Zei,Zej,Zek,Zel,Zem,Zen,Zeo,Zep,decide_true,decide_false,Bool.not_true,Bool.not_false,List.getElem?_cons_zero,List.getElem?_cons_succ,List.length_cons,List.length_nil,if_true,if_false,reduceIte,Nat.reduceAdd,Nat.reduceSub,Nat.reduceLeDiff,Nat.reduceEqDiff,Int.reduceNeg,Int.reduceLT,Int.reduceLE,Int.reduceEq,eq_self,and_self,and_true,true_and,and_false,false_and,not_true_eq_false,not_false_eq_true,cond_true,cond_false,List.length_map,List.length_cons,List.length_nil,List.replicate_succ,List.replicate_zero,List.cons_append,List.nil_append,aload,acells,getArr,part,eI,eS,astore,putCells,get_new,set_new,List.all_cons,List.all_nil,cellOk,Bool.and_self,List.drop_zero,List.drop_succ_cons,List.take_succ_cons,List.take_zero,List.take_nil,List.cons_append,List.nil_append,List.set_cons_zero,hct,htk,c1,c2,resAll,resVals,resVal,Option.some.injEq,Prod.mk.injEq,true_and,and_true,Bool.true_and,Bool.false_and,Bool.and_true,Bool.and_false,Bool.true_or,Bool.false_or,Bool.or_true,Bool.or_false,exists_eq',exists_const]

theorem r_show (g : GramD) (hg : g.Ok) (hn : NamesOk g) : ∀ t, okT t → sizeN t ≤ 1000 → ∀ H, lim G0.cfg (.func 39) [.agg (eGram g), .agg (cT t)] H = some (.str (showT g t), H) := by
  intro t
  induction t using T.ind with
  | _ s r ks ih =>
  intro hok hN H
  obtain ⟨hs, hr, hlen, hoks⟩ := id hok
  rw [maxLen_eq] at hlen
  have hsz : sizeN (.node s r ks) = 1 + sizeNs ks := by simp [sizeN]
  have hsy := r_Sym g hg s hs
  have hnl := symName_len g hn s
  refine lim_flat rfl rfl P_r20_show (ks.length + 1) (fun h => fz_2 (fz_gram g h) (fz_tree _ h)) ?_ (fun _ => rfl) H
  rw [R_r20_show]
  by_cases q : r = -1
  case pos =>
    subst q
    simp only [Zaa,Zab,Zac,Zad,Zae,Zaf,Zag,Zah,Zai,Zaj,Zak,Zal,Zam,Zan,Zao,Zap,Zaq,Zar,Zas,Zat,Zau,Zav,Zaw,Zax,Zay,Zaz,Zba,Zbb,Zbc,Zbd,Zbe,Zbf,Zbg,Zbh,Zbi,Zbj,Zbk,Zbl,Zbm,Zbn,Zbo,Zbp,Zbq,Zbr,Zbs,Zbt,Zbu,Zbv,Zbw,Zbx,Zby,Zbz,Zca,Zcb,Zcc,Zcd,Zce,Zcf,Zcg,Zch,Zci,Zcj,Zck,Zcl,Zcm,Zcn,Zco,Zcp,Zcq,Zcr,Zcs,Zct,Zcu,Zcv,Zcw,Zcx,Zcy,Zcz,Zda,Zdb,Zdc,List.set_cons_zero,List.set_cons_succ,List.getD_cons_zero,List.getD_cons_succ,Option.elim_some,Option.bind_some,Option.map_some,Nat.reduceBEq,Zdd,Zde,Zdf,Zdg,Zdh,Zdi,Zdj,Zdk,Zdl,Zdm,Zdn,Zdo,Zdp,Zdq,Zdr,Zds,Zdt,Zdu,Zdv,Zdw,Zdx,Zdy,Zdz,Zea,Zeb,Zec,Zed,Zee,Zef,Zeg,Zeh,Zei,Zej,Zek,Zel,Zem,Zen,Zeo,Zep,decide_true,decide_false,Bool.not_true,Bool.not_false,List.getElem?_cons_zero,List.getElem?_cons_succ,List.length_cons,List.length_nil,if_true,if_false,reduceIte,Nat.reduceAdd,Nat.reduceSub,Nat.reduceLeDiff,Nat.reduceEqDiff,Int.reduceNeg,Int.reduceLT,Int.reduceLE,Int.reduceEq,eq_self,and_self,and_true,true_and,and_false,false_and,not_true_eq_false,not_false_eq_true,cond_true,cond_false,List.length_map,List.length_cons,List.length_nil,List.replicate_succ,List.replicate_zero,List.cons_append,List.nil_append,aload,acells,getArr,part,eI,eS,astore,putCells,get_new,set_new,List.all_cons,List.all_nil,cellOk,Bool.and_self,List.drop_zero,List.drop_succ_cons,List.take_succ_cons,List.take_zero,List.take_nil,List.cons_append,List.nil_append,List.set_cons_zero,cT,cTs_map,hsy,showT,resAll,resVals,resVal,Option.some.injEq,Prod.mk.injEq,true_and,and_true,Bool.true_and,Bool.false_and,Bool.and_true,Bool.and_false,Bool.true_or,Bool.false_or,Bool.or_true,Bool.or_false,exists_eq',exists_const]
  case neg =>
  have loop : ∀ (d i m : Nat) (acc : Str), ks.length = i + d → d < m → acc.length + sizeNs (ks.drop i) * 200000000000000 ≤ 1000000000000000000 →
      loopN (evalCode (lim G0.cfg) (ks.length + 1) B_r20_show_0) m ⟨[.junk,.junk, .ptr 0 0 0 0, .ptr 1 0 0 0, .junk, .str acc, .int .i64 i, .junk,.junk,.junk,.junk,.junk,.junk,.junk,.junk,.junk,.junk,.junk,.junk,.junk,.junk,.junk,.junk,.junk,.junk,.junk,.junk,.junk,.junk,.junk,.junk,.junk,.junk,.junk,.junk,.junk,.junk,.junk], [.arr 0 5 true [eGram g], .arr 0 3 true [[.int .i64 s, .int .i64 r, .vsl false (ks.map cT)]]]⟩ =
        some (.exit 0, ⟨[.junk,.junk,.junk,.junk,.junk, .str (acc ++ showTs g (ks.drop i)), .junk,.junk,.junk,.junk,.junk,.junk,.junk,.junk,.junk,.junk,.junk,.junk,.junk,.junk,.junk,.junk,.junk,.junk,.junk,.junk,.junk,.junk,.junk,.junk,.junk,.junk,.junk,.junk,.junk,.junk,.junk,.junk], [.arr 0 5 true [eGram g], .arr 0 3 true [[.int .i64 s, .int .i64 r, .vsl false (ks.map cT)]]]⟩) := by
    intro d
    induction d with
    | zero =>
      intro i m acc h1 h3 h4
      obtain ⟨m, rfl⟩ : ∃ q, m = q + 1 := ⟨m - 1, by omega⟩
      have e1 : ks.drop i = [] := List.drop_eq_nil_iff.2 (by omega)
      have h5 : ¬ ((i : Int) < ks.length) := by omega
      rw [e1]
      simp only [loop_e,EB_r20_show_0,Zaa,Zab,Zac,Zad,Zae,Zaf,Zag,Zah,Zai,Zaj,Zak,Zal,Zam,Zan,Zao,Zap,Zaq,Zar,Zas,Zat,Zau,Zav,Zaw,Zax,Zay,Zaz,Zba,Zbb,Zbc,Zbd,Zbe,Zbf,Zbg,Zbh,Zbi,Zbj,Zbk,Zbl,Zbm,Zbn,Zbo,Zbp,Zbq,Zbr,Zbs,Zbt,Zbu,Zbv,Zbw,Zbx,Zby,Zbz,Zca,Zcb,Zcc,Zcd,Zce,Zcf,Zcg,Zch,Zci,Zcj,Zck,Zcl,Zcm,Zcn,Zco,Zcp,Zcq,Zcr,Zcs,Zct,Zcu,Zcv,Zcw,Zcx,Zcy,Zcz,Zda,Zdb,Zdc,List.set_cons_zero,List.set_cons_succ,List.getD_cons_zero,List.getD_cons_succ,Option.elim_some,Option.bind_some,Option.map_some,Nat.reduceBEq,Zdd,Zde,Zdf,Zdg,Zdh,Zdi,Zdj,Zdk,Zdl,Zdm,Zdn,Zdo,Zdp,Zdq,Zdr,Zds,Zdt,Zdu,Zdv,Zdw,Zdx,Zdy,Zdz,Zea,Zeb,Zec,Zed,Zee,Zef,Zeg,Zeh,Zei,Zej,Zek,Zel,Zem,Zen,Zeo,Zep,decide_true,decide_false,Bool.not_true,Bool.not_false,List.getElem?_cons_zero,List.getElem?_cons_succ,List.length_cons,List.length_nil,if_true,if_false,reduceIte,Nat.reduceAdd,Nat.reduceSub,Nat.reduceLeDiff,Nat.reduceEqDiff,Int.reduceNeg,Int.reduceLT,Int.reduceLE,Int.reduceEq,eq_self,and_self,and_true,true_and,and_false,false_and,not_true_eq_false,not_false_eq_true,cond_true,cond_false,List.length_map,aload,acells,getArr,part,eI,eS,astore,putCells,get_new,set_new,List.all_cons,List.all_nil,cellOk,Bool.and_self,List.drop_zero,List.drop_succ_cons,List.take_succ_cons,List.take_zero,List.take_nil,List.cons_append,List.nil_append,List.set_cons_zero,h5,showTs,List.append_nil]
    | succ d ihd =>
      intro i m acc h1 h3 h4
      obtain ⟨m, rfl⟩ : ∃ q, m = q + 1 := ⟨m - 1, by omega⟩
      have h5 : i < ks.length := by omega
      have h5' : (i : Int) < ks.length := by omega
      have e1 : ks.drop i = ks[i] :: ks.drop (i + 1) := List.drop_eq_getElem_cons h5
      have hw := w64s (n := i) (by omega)
      have hmem : ks[i] ∈ ks := List.getElem_mem h5
      have hkn := sizeNs_mem hmem
      have hk := cT_eq ks[i]
      have hc := ih ks[i] hmem (okTs_mem hoks hmem) (by omega)
      have ii := fun h => ix_tree h false ks .i64 i h5
      simp only [hk] at hc ii
      rw [e1] at h4 ⊢
      simp only [sizeNs] at h4
      have hsl := showT_len g hn ks[i]
      have p1 := fun q => as_add q acc [32] (by simp; omega)
      have p2 := fun q => as_add q (acc ++ [32]) (showT g ks[i]) (by simp; omega)
      have e := ihd (i + 1) m (acc ++ [32] ++ showT g ks[i]) (by omega) (by omega) (by simp only [List.length_append,List.length_cons,List.length_nil]; omega)
      have es : acc ++ showTs g (ks[i] :: ks.drop (i + 1)) = acc ++ [32] ++ showT g ks[i] ++ showTs g (ks.drop (i + 1)) := by simp [showTs]
      rw [es, ← e]
      simp only [loop_e,EB_r20_show_0,Zaa,Zab,Zac,Zad,Zae,Zaf,Zag,Zah,Zai,Zaj,Zak,Zal,Zam,Zan,Zao,Zap,Zaq,Zar,Zas,Zat,Zau,Zav,Zaw,Zax,Zay,Zaz,Zba,Zbb,Zbc,Zbd,Zbe,Zbf,Zbg,Zbh,Zbi,Zbj,Zbk,Zbl,Zbm,Zbn,Zbo,Zbp,Zbq,Zbr,Zbs,Zbt,Zbu,Zbv,Zbw,Zbx,Zby,Zbz,Zca,Zcb,Zcc,Zcd,Zce,Zcf,Zcg,Zch,Zci,Zcj,Zck,Zcl,Zcm,Zcn,Zco,Zcp,Zcq,Zcr,Zcs,Zct,Zcu,Zcv,Zcw,Zcx,Zcy,Zcz,Zda,Zdb,Zdc,List.set_cons_zero,List.set_cons_succ,List.getD_cons_zero,List.getD_cons_succ,Option.elim_some,Option.bind_some,Option.map_some,Nat.reduceBEq,Zdd,Zde,Zdf,Zdg,Zdh,Zdi,Zdj,Zdk,Zdl,Zdm,Zdn,Zdo,Zdp,Zdq,Zdr,Zds,Zdt,Zdu,Zdv,Zdw,Zdx,Zdy,Zdz,Zea,Zeb,Zec,Zed,Zee,Zef,Zeg,Zeh,Zei,Zej,Zek,Zel,Zem,Zen,Zeo,Zep,decide_true,decide_false,Bool.not_true,Bool.not_false,List.getElem?_cons_zero,List.getElem?_cons_succ,List.length_cons,List.length_nil,if_true,if_false,reduceIte,Nat.reduceAdd,Nat.reduceSub,Nat.reduceLeDiff,Nat.reduceEqDiff,Int.reduceNeg,Int.reduceLT,Int.reduceLE,Int.reduceEq,eq_self,and_self,and_true,true_and,and_false,false_and,not_true_eq_false,not_false_eq_true,cond_true,cond_false,List.length_map,aload,acells,getArr,part,eI,eS,astore,putCells,get_new,set_new,List.all_cons,List.all_nil,cellOk,Bool.and_self,List.drop_zero,List.drop_succ_cons,List.take_succ_cons,List.take_zero,List.take_nil,List.cons_append,List.nil_append,List.set_cons_zero,h5',ii,hc,p1,p2,hw]
  have p0 := fun q => as_add q [40] (symName g s) (by simp; omega)
  have e := loop ks.length 0 (ks.length + 1) ([40] ++ symName g s) (by omega) (by omega) (by rw [List.drop_zero]; simp; omega)
  rw [List.drop_zero, z0] at e
  have hsl := showTs_len g hn ks
  have p1 := fun q => as_add q ([40] ++ symName g s ++ showTs g ks) [41] (by simp; omega)
  have es : showT g (.node s r ks) = [40] ++ symName g s ++ showTs g ks ++ [41] := by simp [showT, q]
  rw [es]
  simp only [List.append_assoc,List.cons_append,List.nil_append] at p0 p1 e ⊢
  simp only [Zaa,Zab,Zac,Zad,Zae,Zaf,Zag,Zah,Zai,Zaj,Zak,Zal,Zam,Zan,Zao,Zap,Zaq,Zar,Zas,Zat,Zau,Zav,Zaw,Zax,Zay,Zaz,Zba,Zbb,Zbc,Zbd,Zbe,Zbf,Zbg,Zbh,Zbi,Zbj,Zbk,Zbl,Zbm,Zbn,Zbo,Zbp,Zbq,Zbr,Zbs,Zbt,Zbu,Zbv,Zbw,Zbx,Zby,Zbz,Zca,Zcb,Zcc,Zcd,Zce,Zcf,Zcg,Zch,Zci,Zcj,Zck,Zcl,Zcm,Zcn,Zco,Zcp,Zcq,Zcr,Zcs,Zct,Zcu,Zcv,Zcw,Zcx,Zcy,Zcz,Zda,Zdb,Zdc,List.set_cons_zero,List.set_cons_succ,List.getD_cons_zero,List.getD_cons_succ,Option.elim_some,Option.bind_some,Option.map_some,Nat.reduceBEq,Zdd,Zde,Zdf,Zdg,Zdh,Zdi,Zdj,Zdk,Zdl,Zdm,Zdn,Zdo,Zdp,Zdq,Zdr,Zds,Zdt,Zdu,Zdv,Zdw,Zdx,Zdy,Zdz,Zea,Zeb,Zec,Zed,Zee,Zef,Zeg,Zeh,Zei,Zej,Zek,Zel,Zem,Zen,Zeo,Zep,decide_true,decide_false,Bool.not_true,Bool.not_false,List.getElem?_cons_zero,List.getElem?_cons_succ,List.length_cons,List.length_nil,if_true,if_false,reduceIte,Nat.reduceAdd,Nat.reduceSub,Nat.reduceLeDiff,Nat.reduceEqDiff,Int.reduceNeg,Int.reduceLT,Int.reduceLE,Int.reduceEq,eq_self,and_self,and_true,true_and,and_false,false_and,not_true_eq_false,not_false_eq_true,cond_true,cond_false,List.length_map,List.length_cons,List.length_nil,List.replicate_succ,List.replicate_zero,List.cons_append,List.nil_append,aload,acells,getArr,part,eI,eS,astore,putCells,get_new,set_new,List.all_cons,List.all_nil,cellOk,Bool.and_self,List.drop_zero,List.drop_succ_cons,List.take_succ_cons,List.take_zero,List.take_nil,List.cons_append,List.nil_append,List.set_cons_zero,cT,cTs_map,hsy,q,e,p0,p1,resAll,resVals,resVal,Option.some.injEq,Prod.mk.injEq,true_and,and_true,Bool.true_and,Bool.false_and,Bool.and_true,Bool.and_false,Bool.true_or,Bool.false_or,Bool.or_true,Bool.or_false,exists_eq',exists_const]

theorem r_Show (g : GramD) (hg : g.Ok) (hn : NamesOk g) (t : T) (ht : okT t) (hN : sizeN t ≤ 1000) (H : AHeap) : lim G0.cfg (.func 22) [.agg (eGram g), .agg (cT t)] H = some (.str (if treeOk g t = true then showT g t else []), H) := by
  refine lim_flat rfl rfl P_r20_Show 1 (fun h => fz_2 (fz_gram g h) (fz_tree t h)) ?_ (fun _ => rfl) H
  have c1 := r_tRight g hg t ht (by omega)
  have c2 := r_show g hg hn t ht hN
  have hct := cT_len t
  have htk : List.take 3 (cT t) = cT t := List.take_of_length_le (Nat.le_of_eq hct)
  rw [R_r20_Show]
  cases q : treeOk g t
  · rw [q] at c1
    simp only [Zaa,Zab,Zac,Zad,Zae,Zaf,Zag,Zah,Zai,Zaj,Zak,Zal,Zam,Zan,Zao,Zap,Zaq,Zar,Zas,Zat,Zau,Zav,Zaw,Zax,Zay,Zaz,Zba,Zbb,Zbc,Zbd,Zbe,Zbf,Zbg,Zbh,Zbi,Zbj,Zbk,Zbl,Zbm,Zbn,Zbo,Zbp,Zbq,Zbr,Zbs,Zbt,Zbu,Zbv,Zbw,Zbx,Zby,Zbz,Zca,Zcb,Zcc,Zcd,Zce,Zcf,Zcg,Zch,Zci,Zcj,Zck,Zcl,Zcm,Zcn,Zco,Zcp,Zcq,Zcr,Zcs,Zct,Zcu,Zcv,Zcw,Zcx,Zcy,Zcz,Zda,Zdb,Zdc,List.set_cons_zero,List.set_cons_succ,List.getD_cons_zero,List.getD_cons_succ,Option.elim_some,Option.bind_some,Option.map_some,Nat.reduceBEq,Zdd,Zde,Zdf,Zdg,Zdh,Zdi,Zdj,Zdk,Zdl,Zdm,Zdn,Zdo,Zdp,Zdq,Zdr,Zds,Zdt,Zdu,Zdv,Zdw,Zdx,Zdy,Zdz,Zea,Zeb,Zec,Zed,Zee,Zef,Zeg,Zeh,Zei,Zej,Zek,Zel,Zem,Zen,Zeo,Zep,decide_true,decide_false,Bool.not_true,Bool.not_false,List.getElem?_cons_zero,List.getElem?_cons_succ,List.length_cons,List.length_nil,if_true,if_false,reduceIte,Nat.reduceAdd,Nat.reduceSub,Nat.reduceLeDiff,Nat.reduceEqDiff,Int.reduceNeg,Int.reduceLT,Int.reduceLE,Int.reduceEq,eq_self,and_self,and_true,true_and,and_false,false_and,not_true_eq_false,not_false_eq_true,cond_true,cond_false,List.length_map,List.length_cons,List.length_nil,List.replicate_succ,List.replicate_zero,List.cons_append,List.nil_append,aload,acells,getArr,part,eI,eS,astore,putCells,get_new,set_new,List.all_cons,List.all_nil,cellOk,Bool.and_self,List.drop_zero,List.drop_succ_cons,List.take_succ_cons,List.take_zero,List.take_nil,List.cons_append,List.nil_append,List.set_cons_zero,hct,htk,c1,resAll,resVals,resVal,Option.some.injEq,Prod.mk.injEq,true_and,and_true,Bool.true_and,Bool.false_and,Bool.and_true,Bool.and_false,Bool.true_or,Bool.false_or,Bool.or_true,Bool.or_false,exists_eq',exists_const,Bool.false_eq_true]
  · rw [q] at c1
    simp only [Zaa,Zab,Zac,Zad,Zae,Zaf,Zag,Zah,Zai,Zaj,Zak,Zal,Zam,Zan,Zao,Zap,Zaq,Zar,Zas,Zat,Zau,Zav,Zaw,Zax,Zay,Zaz,Zba,Zbb,Zbc,Zbd,Zbe,Zbf,Zbg,Zbh,Zbi,Zbj,Zbk,Zbl,Zbm,Zbn,Zbo,Zbp,Zbq,Zbr,Zbs,Zbt,Zbu,Zbv,Zbw,Zbx,Zby,Zbz,Zca,Zcb,Zcc,Zcd,Zce,Zcf,Zcg,Zch,Zci,Zcj,Zck,Zcl,Zcm,Zcn,Zco,Zcp,Zcq,Zcr,Zcs,Zct,Zcu,Zcv,Zcw,Zcx,Zcy,Zcz,Zda,Zdb,Zdc,List.set_cons_zero,List.set_cons_succ,List.getD_cons_zero,List.getD_cons_succ,Option.elim_some,Option.bind_some,Option.map_some,Nat.reduceBEq,Zdd,Zde,Zdf,Zdg,Zdh,Zdi,Zdj,Zdk,Zdl,Zdm,Zdn,Zdo,Zdp,Zdq,Zdr,Zds,Zdt,Zdu,Zdv,Zdw,Zdx,Zdy,Zdz,Zea,Zeb,Zec,Zed,Zee,Zef,Zeg,Zeh,Zei,Zej,Zek,Zel,Zem,Zen,Zeo,Zep,decide_true,decide_false,Bool.not_true,Bool.not_false,List.getElem?_cons_zero,List.getElem?_cons_succ,List.length_cons,List.length_nil,if_true,if_false,reduceIte,Nat.reduceAdd,Nat.reduceSub,Nat.reduceLeDiff,Nat.reduceEqDiff,Int.reduceNeg,Int.reduceLT,Int.reduceLE,Int.reduceEq,eq_self,and_self,and_true,true_and,and_false,false_and,not_true_eq_false,not_false_eq_true,cond_true,cond_false,List.length_map,List.length_cons,List.length_nil,List.replicate_succ,List.replicate_zero,List.cons_append,List.nil_append,aload,acells,getArr,part,eI,eS,astore,putCells,get_new,set_new,List.all_cons,List.all_nil,cellOk,Bool.and_self,List.drop_zero,List.drop_succ_cons,List.take_succ_cons,List.take_zero,List.take_nil,List.cons_append,List.nil_append,List.set_cons_zero,hct,htk,c1,c2,resAll,resVals,resVal,Option.some.injEq,Prod.mk.injEq,true_and,and_true,Bool.true_and,Bool.false_and,Bool.and_true,Bool.and_false,Bool.true_or,Bool.false_or,Bool.or_true,Bool.or_false,exists_eq',exists_const]
end Go.Proofs.Ytkimloceaihplaa.Ai
