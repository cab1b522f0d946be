/- Trees: the functions that only count, walked. -/
import Derived.Test.YtkimloceaihplaaGf3
import Derived.Test.YtkimloceaihplaaTr1
namespace Go.Proofs.Ytkimloceaihplaa.Ai
open Go Go.Proofs
set_option linter.unusedVariables false
set_option linter.unusedSimpArgs false
set_option maxRecDepth 10000
set_option maxHeartbeats 4000000

/-! ### The law's own count of nodes: up to a limit -/
theorem f_nodes : ∀ t, okT t → ∀ (m : Nat), 1 ≤ m → m ≤ 1000000 → ∀ H, lim G0.cfg (.func 10) [.agg (cT t), .int .i64 m] H = some (.int .i64 (min (sizeN t) m : Nat), H) := by
  intro t
  induction t using T.ind with
  | _ s r ks ih =>
  intro hok m hm0 hm1 H
  obtain ⟨hs, hr, hlen, hoks⟩ := hok
  rw [maxLen_eq] at hlen
  refine lim_flat rfl rfl P_l20_nodes (ks.length + 1) (fun h => fz_2 (fz_tree _ h) rfl) ?_ (fun _ => rfl) H
  have loop : ∀ (d i mm : Nat) (v : Nat), ks.length = i + d → d < mm → v ≤ m → 1 ≤ v →
      loopN (evalCode (lim G0.cfg) (ks.length + 1) B_l20_nodes_0) mm ⟨[.junk, .int .i64 m, .ptr 0 0 0 0, .junk,.junk, .int .i64 v, .int .i64 i, .junk,.junk,.junk,.junk,.junk,.junk,.junk,.junk,.junk,.junk,.junk,.junk,.junk,.junk,.junk,.junk,.junk,.junk,.junk,.junk,.junk,.junk,.junk,.junk], [.arr 0 3 true [[.int .i64 s, .int .i64 r, .vsl false (ks.map cT)]]]⟩ =
        some (.exit 0, ⟨[.junk,.junk,.junk,.junk,.junk, .int .i64 (min (v + sizeNs (ks.drop i)) m : Nat), .junk,.junk,.junk,.junk,.junk,.junk,.junk,.junk,.junk,.junk,.junk,.junk,.junk,.junk,.junk,.junk,.junk,.junk,.junk,.junk,.junk,.junk,.junk,.junk,.junk], [.arr 0 3 true [[.int .i64 s, .int .i64 r, .vsl false (ks.map cT)]]]⟩) := by
    intro d
    induction d with
    | zero =>
      intro i mm v h1 h2 h4 h5
      obtain ⟨mm, rfl⟩ : ∃ q, mm = q + 1 := ⟨mm - 1, by omega⟩
      have e1 : ks.drop i = [] := List.drop_eq_nil_iff.2 (by omega)
      have h3 : ¬ ((i : Int) < ks.length) := by omega
      have e2 : min (v + sizeNs []) m = v := by simp [sizeNs]; omega
      rw [e1, e2]
      simp only [loop_e,EB_l20_nodes_0,Zaa,Zab,Zac,Zad,Zae,Zaf,Zag,Zah,Zai,Zaj,Zak,Zal,Zam,Zan,Zao,Zap,Zaq,Zar,Zas,Zat,Zau,Zav,Zaw,Zax,Zay,Zaz,Zba,Zbb,Zbc,Zbd,Zbe,Zbf,Zbg,Zbh,Zbi,Zbj,Zbk,Zbl,Zbm,Zbn,Zbo,Zbp,Zbq,Zbr,Zbs,Zbt,Zbu,Zbv,Zbw,Zbx,Zby,Zbz,Zca,Zcb,Zcc,Zcd,Zce,Zcf,Zcg,Zch,Zci,Zcj,Zck,Zcl,Zcm,Zcn,Zco,Zcp,Zcq,Zcr,Zcs,Zct,Zcu,Zcv,Zcw,Zcx,Zcy,Zcz,Zda,Zdb,Zdc,List.set_cons_zero,List.set_cons_succ,List.getD_cons_zero,List.getD_cons_succ,Option.elim_some,Option.bind_some,Option.map_some,Nat.reduceBEq,Zdd,Zde,Zdf,Zdg,Zdh,Zdi,Zdj,Zdk,Zdl,Zdm,Zdn,Zdo,Zdp,Zdq,Zdr,Zds,Zdt,Zdu,Zdv,Zdw,Zdx,Zdy,Zdz,Zea,Zeb,Zec,Zed,Zee,Zef,Zeg,Zeh,Zei,Zej,Zek,Zel,Zem,Zen,Zeo,Zep,decide_true,decide_false,Bool.not_true,Bool.not_false,List.getElem?_cons_zero,List.getElem?_cons_succ,List.length_cons,List.length_nil,if_true,if_false,reduceIte,Nat.reduceAdd,Nat.reduceSub,Nat.reduceLeDiff,Nat.reduceEqDiff,Int.reduceNeg,Int.reduceLT,Int.reduceLE,Int.reduceEq,eq_self,and_self,and_true,true_and,and_false,false_and,not_true_eq_false,not_false_eq_true,cond_true,cond_false,List.length_map,aload,acells,getArr,part,eI,eS,astore,putCells,get_new,set_new,List.all_cons,List.all_nil,cellOk,Bool.and_self,List.drop_zero,List.drop_succ_cons,List.take_succ_cons,List.take_zero,List.take_nil,List.cons_append,List.nil_append,List.set_cons_zero,List.length_map,h3]
    | succ d ihd =>
      intro i mm v h1 h2 h4 h5
      obtain ⟨mm, rfl⟩ : ∃ q, mm = q + 1 := ⟨mm - 1, by omega⟩
      have h3 : i < ks.length := by omega
      have h3' : (i : Int) < ks.length := by omega
      have e1 : ks.drop i = ks[i] :: ks.drop (i + 1) := List.drop_eq_getElem_cons h3
      have hw := w64s (n := i) (by omega)
      have hp := sizeN_pos ks[i]
      by_cases q : (v : Int) < m
      case neg =>
        have e2 : min (v + sizeNs (ks.drop i)) m = v := by omega
        rw [e2]
        simp only [loop_e,EB_l20_nodes_0,Zaa,Zab,Zac,Zad,Zae,Zaf,Zag,Zah,Zai,Zaj,Zak,Zal,Zam,Zan,Zao,Zap,Zaq,Zar,Zas,Zat,Zau,Zav,Zaw,Zax,Zay,Zaz,Zba,Zbb,Zbc,Zbd,Zbe,Zbf,Zbg,Zbh,Zbi,Zbj,Zbk,Zbl,Zbm,Zbn,Zbo,Zbp,Zbq,Zbr,Zbs,Zbt,Zbu,Zbv,Zbw,Zbx,Zby,Zbz,Zca,Zcb,Zcc,Zcd,Zce,Zcf,Zcg,Zch,Zci,Zcj,Zck,Zcl,Zcm,Zcn,Zco,Zcp,Zcq,Zcr,Zcs,Zct,Zcu,Zcv,Zcw,Zcx,Zcy,Zcz,Zda,Zdb,Zdc,List.set_cons_zero,List.set_cons_succ,List.getD_cons_zero,List.getD_cons_succ,Option.elim_some,Option.bind_some,Option.map_some,Nat.reduceBEq,Zdd,Zde,Zdf,Zdg,Zdh,Zdi,Zdj,Zdk,Zdl,Zdm,Zdn,Zdo,Zdp,Zdq,Zdr,Zds,Zdt,Zdu,Zdv,Zdw,Zdx,Zdy,Zdz,Zea,Zeb,Zec,Zed,Zee,Zef,Zeg,Zeh,Zei,Zej,Zek,Zel,Zem,Zen,Zeo,Zep,decide_true,decide_false,Bool.not_true,Bool.not_false,List.getElem?_cons_zero,List.getElem?_cons_succ,List.length_cons,List.length_nil,if_true,if_false,reduceIte,Nat.reduceAdd,Nat.reduceSub,Nat.reduceLeDiff,Nat.reduceEqDiff,Int.reduceNeg,Int.reduceLT,Int.reduceLE,Int.reduceEq,eq_self,and_self,and_true,true_and,and_false,false_and,not_true_eq_false,not_false_eq_true,cond_true,cond_false,List.length_map,aload,acells,getArr,part,eI,eS,astore,putCells,get_new,set_new,List.all_cons,List.all_nil,cellOk,Bool.and_self,List.drop_zero,List.drop_succ_cons,List.take_succ_cons,List.take_zero,List.take_nil,List.cons_append,List.nil_append,List.set_cons_zero,List.length_map,h3',q]
      case pos =>
        have hc := ih ks[i] (List.getElem_mem h3) (okTs_mem hoks (List.getElem_mem h3)) (m - v) (by omega) (by omega)
        have hsub : ((m - v : Nat) : Int) = IntKind.i64.wrap ((m : Int) - v) := by rw [w64 (by omega) (by omega)]; omega
        rw [hsub] at hc
        have hadd : IntKind.i64.wrap ((v : Int) + ((min (sizeN ks[i]) (m - v) : Nat) : Int)) = ((v + min (sizeN ks[i]) (m - v) : Nat) : Int) := by rw [w64 (by omega) (by omega)]; omega
        have := ihd (i + 1) mm (v + min (sizeN ks[i]) (m - v)) (by omega) (by omega) (by omega) (by omega)
        have e2 : min (v + sizeNs (ks.drop i)) m = min (v + min (sizeN ks[i]) (m - v) + sizeNs (ks.drop (i + 1))) m := by
          rw [e1]; simp only [sizeNs]; omega
        rw [e2, ← this]
        have hct := cT_len ks[i]
        simp only [loop_e,EB_l20_nodes_0,Zaa,Zab,Zac,Zad,Zae,Zaf,Zag,Zah,Zai,Zaj,Zak,Zal,Zam,Zan,Zao,Zap,Zaq,Zar,Zas,Zat,Zau,Zav,Zaw,Zax,Zay,Zaz,Zba,Zbb,Zbc,Zbd,Zbe,Zbf,Zbg,Zbh,Zbi,Zbj,Zbk,Zbl,Zbm,Zbn,Zbo,Zbp,Zbq,Zbr,Zbs,Zbt,Zbu,Zbv,Zbw,Zbx,Zby,Zbz,Zca,Zcb,Zcc,Zcd,Zce,Zcf,Zcg,Zch,Zci,Zcj,Zck,Zcl,Zcm,Zcn,Zco,Zcp,Zcq,Zcr,Zcs,Zct,Zcu,Zcv,Zcw,Zcx,Zcy,Zcz,Zda,Zdb,Zdc,List.set_cons_zero,List.set_cons_succ,List.getD_cons_zero,List.getD_cons_succ,Option.elim_some,Option.bind_some,Option.map_some,Nat.reduceBEq,Zdd,Zde,Zdf,Zdg,Zdh,Zdi,Zdj,Zdk,Zdl,Zdm,Zdn,Zdo,Zdp,Zdq,Zdr,Zds,Zdt,Zdu,Zdv,Zdw,Zdx,Zdy,Zdz,Zea,Zeb,Zec,Zed,Zee,Zef,Zeg,Zeh,Zei,Zej,Zek,Zel,Zem,Zen,Zeo,Zep,decide_true,decide_false,Bool.not_true,Bool.not_false,List.getElem?_cons_zero,List.getElem?_cons_succ,List.length_cons,List.length_nil,if_true,if_false,reduceIte,Nat.reduceAdd,Nat.reduceSub,Nat.reduceLeDiff,Nat.reduceEqDiff,Int.reduceNeg,Int.reduceLT,Int.reduceLE,Int.reduceEq,eq_self,and_self,and_true,true_and,and_false,false_and,not_true_eq_false,not_false_eq_true,cond_true,cond_false,List.length_map,aload,acells,getArr,part,eI,eS,astore,putCells,get_new,set_new,List.all_cons,List.all_nil,cellOk,Bool.and_self,List.drop_zero,List.drop_succ_cons,List.take_succ_cons,List.take_zero,List.take_nil,List.cons_append,List.nil_append,List.set_cons_zero,List.length_map,h3',q,ix_tree _ _ ks _ i h3,hct,List.take_of_length_le (Nat.le_of_eq hct),hc,hadd,hw]
  have e := loop ks.length 0 (ks.length + 1) 1 (by omega) (by omega) hm0 (by omega)
  rw [List.drop_zero, z0] at e
  have z1 : ((1 : Nat) : Int) = 1 := rfl
  rw [z1] at e
  rw [R_l20_nodes]
  have e3 : sizeN (.node s r ks) = 1 + sizeNs ks := by simp [sizeN]
  rw [e3]
  simp only [Zaa,Zab,Zac,Zad,Zae,Zaf,Zag,Zah,Zai,Zaj,Zak,Zal,Zam,Zan,Zao,Zap,Zaq,Zar,Zas,Zat,Zau,Zav,Zaw,Zax,Zay,Zaz,Zba,Zbb,Zbc,Zbd,Zbe,Zbf,Zbg,Zbh,Zbi,Zbj,Zbk,Zbl,Zbm,Zbn,Zbo,Zbp,Zbq,Zbr,Zbs,Zbt,Zbu,Zbv,Zbw,Zbx,Zby,Zbz,Zca,Zcb,Zcc,Zcd,Zce,Zcf,Zcg,Zch,Zci,Zcj,Zck,Zcl,Zcm,Zcn,Zco,Zcp,Zcq,Zcr,Zcs,Zct,Zcu,Zcv,Zcw,Zcx,Zcy,Zcz,Zda,Zdb,Zdc,List.set_cons_zero,List.set_cons_succ,List.getD_cons_zero,List.getD_cons_succ,Option.elim_some,Option.bind_some,Option.map_some,Nat.reduceBEq,Zdd,Zde,Zdf,Zdg,Zdh,Zdi,Zdj,Zdk,Zdl,Zdm,Zdn,Zdo,Zdp,Zdq,Zdr,Zds,Zdt,Zdu,Zdv,Zdw,Zdx,Zdy,Zdz,Zea,Zeb,Zec,Zed,Zee,Zef,Zeg,Zeh,Zei,Zej,Zek,Zel,Zem,Zen,Zeo,Zep,decide_true,decide_false,Bool.not_true,Bool.not_false,List.getElem?_cons_zero,List.getElem?_cons_succ,List.length_cons,List.length_nil,if_true,if_false,reduceIte,Nat.reduceAdd,Nat.reduceSub,Nat.reduceLeDiff,Nat.reduceEqDiff,Int.reduceNeg,Int.reduceLT,Int.reduceLE,Int.reduceEq,eq_self,and_self,and_true,true_and,and_false,false_and,not_true_eq_false,not_false_eq_true,cond_true,cond_false,List.length_map,List.length_cons,List.length_nil,List.replicate_succ,List.replicate_zero,List.cons_append,List.nil_append,aload,acells,getArr,part,eI,eS,astore,putCells,get_new,set_new,List.all_cons,List.all_nil,cellOk,Bool.and_self,List.drop_zero,List.drop_succ_cons,List.take_succ_cons,List.take_zero,List.take_nil,List.cons_append,List.nil_append,List.set_cons_zero,cT,cTs_map,e,resAll,resVals,resVal,Option.some.injEq,Prod.mk.injEq,true_and,and_true,Bool.true_and,Bool.false_and,Bool.and_true,Bool.and_false,Bool.true_or,Bool.false_or,Bool.or_true,Bool.or_false,exists_eq',exists_const]
end Go.Proofs.Ytkimloceaihplaa.Ai
