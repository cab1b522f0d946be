/- Trees: the functions that only count, walked. -/
import Derived.Test.YtkimloceaihplaapGf3
import Derived.Test.YtkimloceaihplaapTr1
namespace Go.Proofs.Ytkimloceaihplaa.Ai
open Go Go.Proofs
set_option linter.unusedVariables false
set_option linter.unusedSimpArgs false
set_option maxRecDepth 10000
set_option maxHeartbeats 4000000

/-! ### The law's own count of nodes: up to a limit -/
theorem f_nodes : ∀ t, okT t → ∀ (m : Nat), 1 ≤ m → m ≤ 1000000 → ∀ H, lim G0.cfg (.func 10) [.agg (cT t), .int .i64 m] H = some (.int .i64 (min (sizeN t) m : Nat), H) := by
  intro t
  induction t using T.ind with
  | _ s r ks ih =>
  intro hok m hm0 hm1 H
  obtain ⟨hs, hr, hlen, hoks⟩ := hok
  rw [maxLen_eq] at hlen
  refine lim_flat rfl rfl P_l20_nodes (ks.length + 1) (fun h => fz_2 (fz_tree _ h) rfl) ?_ (fun _ => rfl) H
  have loop : ∀ (d i mm : Nat) (v : Nat), ks.length = i + d → d < mm → v ≤ m → 1 ≤ v →
      loopN (evalCode (lim G0.cfg) (ks.length + 1) B_l20_nodes_0) mm ⟨[.junk, .int .i64 m, .ptr 0 0 0 0, .junk,.junk, .int .i64 v, .int .i64 i, .junk,.junk,.junk,.junk,.junk,.junk,.junk,.junk,.junk,.junk,.junk,.junk,.junk,.junk,.junk,.junk,.junk,.junk,.junk,.junk,.junk,.junk,.junk,.junk], [.arr 0 3 true [[.int .i64 s, .int .i64 r, .vsl false (ks.map cT)]]]⟩ =
        some (.exit 0, ⟨[.junk,.junk,.junk,.junk,.junk, .int .i64 (min (v + sizeNs (ks.drop i)) m : Nat), .junk,.junk,.junk,.junk,.junk,.junk,.junk,.junk,.junk,.junk,.junk,.junk,.junk,.junk,.junk,.junk,.junk,.junk,.junk,.junk,.junk,.junk,.junk,.junk,.junk], [.arr 0 3 true [[.int .i64 s, .int .i64 r, .vsl false (ks.map cT)]]]⟩) := by
    intro d
    induction d with
    | zero =>
      intro i mm v h1 h2 h4 h5
      obtain ⟨mm, rfl⟩ : ∃ q, mm = q + 1 := ⟨mm - 1, by omega⟩
      have e1 : ks.drop i = [] := List.drop_eq_nil_iff.2 (by omega)
      have h3 : ¬ ((i : Int) < ks.length) := by omega
      have e2 : min (v + sizeNs []) m = v := by simp [sizeNs]; omega
      rw [e1, e2]
      simp only [loop_e,EB_l20_nodes_0,Zab,Zac,Zad,Zag,Zah,Zaj,Zak,Zal,Zas,Zav,Zay,Zbe,Zbh,Zbi,Zbj,Zbk,Zbl,Zbo,Zbq,Zby,Zcg,Zcu,Zcv,Zcw,Zda,Zdb,Zdc,List.set_cons_zero,List.set_cons_succ,List.getD_cons_zero,List.getD_cons_succ,Option.bind_some,Zdg,Zds,Zdw,Zdy,decide_false,List.getElem?_cons_zero,List.length_cons,List.length_nil,if_true,Nat.reduceAdd,Nat.reduceLeDiff,eq_self,List.length_map,aload,acells,getArr,part,List.drop_zero,List.drop_succ_cons,List.take_succ_cons,List.take_nil,List.set_cons_zero,List.length_map,h3]
    | succ d ihd =>
      intro i mm v h1 h2 h4 h5
      obtain ⟨mm, rfl⟩ : ∃ q, mm = q + 1 := ⟨mm - 1, by omega⟩
      have h3 : i < ks.length := by omega
      have h3' : (i : Int) < ks.length := by omega
      have e1 : ks.drop i = ks[i] :: ks.drop (i + 1) := List.drop_eq_getElem_cons h3
      have hw := w64s (n := i) (by omega)
      have hp := sizeN_pos ks[i]
      by_cases q : (v : Int) < m
      case neg =>
        have e2 : min (v + sizeNs (ks.drop i)) m = v := by omega
        rw [e2]
        simp only [loop_e,EB_l20_nodes_0,Zab,Zac,Zad,Zag,Zah,Zaj,Zak,Zal,Zas,Zav,Zay,Zbb,Zbg,Zbi,Zbj,Zbk,Zbl,Zbo,Zbq,Zby,Zcg,Zcu,Zcv,Zcw,Zda,Zdb,Zdc,List.set_cons_zero,List.set_cons_succ,List.getD_cons_zero,List.getD_cons_succ,Option.bind_some,Zdg,Zds,Zdw,Zdy,decide_true,decide_false,List.getElem?_cons_zero,List.length_cons,List.length_nil,if_true,Nat.reduceAdd,Nat.reduceLeDiff,eq_self,List.length_map,aload,acells,getArr,part,List.drop_zero,List.drop_succ_cons,List.take_succ_cons,List.take_nil,List.set_cons_zero,List.length_map,h3',q]
      case pos =>
        have hc := ih ks[i] (List.getElem_mem h3) (okTs_mem hoks (List.getElem_mem h3)) (m - v) (by omega) (by omega)
        have hsub : ((m - v : Nat) : Int) = IntKind.i64.wrap ((m : Int) - v) := by rw [w64 (by omega) (by omega)]; omega
        rw [hsub] at hc
        have hadd : IntKind.i64.wrap ((v : Int) + ((min (sizeN ks[i]) (m - v) : Nat) : Int)) = ((v + min (sizeN ks[i]) (m - v) : Nat) : Int) := by rw [w64 (by omega) (by omega)]; omega
        have := ihd (i + 1) mm (v + min (sizeN ks[i]) (m - v)) (by omega) (by omega) (by omega) (by omega)
        have e2 : min (v + sizeNs (ks.drop i)) m = min (v + min (sizeN ks[i]) (m - v) + sizeNs (ks.drop (i + 1))) m := by
          rw [e1]; simp only [sizeNs]; omega
        rw [e2, ← this]
        have hct := cT_len ks[i]
        simp only [loop_e,EB_l20_nodes_0,Zaa,Zab,Zac,Zad,Zae,Zag,Zaj,Zak,Zan,Zar,Zau,Zay,Zaz,Zbb,Zbg,Zbi,Zbj,Zbk,Zbl,Zbo,Zbq,Zby,Zcb,Zcg,Zco,Zcp,Zcu,Zcv,Zcw,Zcy,Zcz,Zda,Zdb,Zdc,List.set_cons_zero,List.set_cons_succ,List.getD_cons_zero,List.getD_cons_succ,Option.bind_some,Zdd,Zde,Zdg,Zds,Zdw,Zdy,Zdz,decide_true,List.getElem?_cons_zero,List.length_cons,List.length_nil,if_true,Nat.reduceAdd,Nat.reduceLeDiff,eq_self,List.length_map,aload,acells,getArr,part,List.drop_zero,List.drop_succ_cons,List.take_succ_cons,List.take_nil,List.cons_append,List.nil_append,List.set_cons_zero,List.length_map,h3',q,ix_tree _ _ ks _ i h3,hct,List.take_of_length_le (Nat.le_of_eq hct),hc,hadd,hw]
  have e := loop ks.length 0 (ks.length + 1) 1 (by omega) (by omega) hm0 (by omega)
  rw [List.drop_zero, z0] at e
  have z1 : ((1 : Nat) : Int) = 1 := rfl
  rw [z1] at e
  rw [R_l20_nodes]
  have e3 : sizeN (.node s r ks) = 1 + sizeNs ks := by simp [sizeN]
  rw [e3]
  simp only [Zab,Zac,Zae,Zaf,Zag,Zai,Zaj,Zak,Zap,Zat,Zaz,Zbi,Zbk,Zbn,Zcr,Zct,Zcu,Zcv,Zcw,Zda,Zdb,Zdc,List.set_cons_zero,List.set_cons_succ,List.getD_cons_zero,List.getD_cons_succ,Option.map_some,Zea,List.length_cons,List.length_nil,if_true,Nat.reduceAdd,Nat.reduceSub,eq_self,true_and,List.length_cons,List.length_nil,List.replicate_succ,List.replicate_zero,List.cons_append,List.nil_append,List.cons_append,List.nil_append,List.set_cons_zero,cT,cTs_map,e,resAll,resVals,resVal,Option.some.injEq,Prod.mk.injEq,true_and,exists_eq']
end Go.Proofs.Ytkimloceaihplaa.Ai
