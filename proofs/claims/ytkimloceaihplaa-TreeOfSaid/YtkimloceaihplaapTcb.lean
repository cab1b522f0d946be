/- The reference's last: the walk. -/
import Derived.Test.YtkimloceaihplaapTca
import Derived.Test.YtkimloceaihplaapGf3
namespace Go.Proofs.Ytkimloceaihplaa.Ai
open Go Go.Proofs
set_option linter.unusedVariables false
set_option linter.unusedSimpArgs false
set_option maxRecDepth 10000
set_option maxHeartbeats 4000000

theorem r_last {g : GramD} (hg : GramR g) {k : Nat} {rk : RuleD} (hrk : g.rules[k]? = some rk) (hk : k < 9223372036854775807) : ∀ t, sizeN t ≤ 1000000 → ∀ c, Enc t c → ∃ c', Enc (lastT g k t).1 c' ∧ ∀ H, lim G0.cfg (.func 49) [.agg (eGram g), .agg c, .int .i64 k] H = some (.tup [.agg c', .int .i64 (lastT g k t).2], H) := by
  obtain ⟨r1, r2, r3⟩ := hg.rule hrk
  have hrl := (List.getElem?_eq_some_iff.1 hrk).1
  have hrg : g.rules[k] = rk := (List.getElem?_eq_some_iff.1 hrk).2
  have hir := fun h => ix_map eRule h 5 false g.rules .i64 k hrl rfl
  simp only [hrg] at hir
  have hw1 : IntKind.i64.wrap (-1 - rk.left) = -1 - rk.left := w64 (by omega) (by omega)
  have elo : leftOf g k = rk.left := by simp [leftOf, hrk]
  intro t
  induction t using T.ind with
  | _ s r ks ih =>
  intro hN c hc
  have hsz : ks.length ≤ 1000000 := by have := len_sizeNs ks; simp only [sizeN] at hN; omega
  have hEc := hc
  obtain ⟨kv, rfl, ll, ix, _⟩ := hc.open
  have hkv : kv = .nilS ∨ ∃ e rows, kv = .vsl e rows := by
    obtain ⟨kv', e, h⟩ := hEc.kv3
    cases e; exact h
  by_cases hr : r = -1
  case pos =>
    subst hr
    by_cases h0 : 0 ≤ s
    case pos =>
      have el : lastT g k (.node s (-1) ks) = (.node s (-1) ks, 0) := by simp [lastT, h0]
      rw [el]
      refine ⟨_, hEc, fun H => ?_⟩
      rcases hkv with rfl | ⟨e, rows, rfl⟩
      all_goals
        refine lim_flat rfl rfl P_r20_last 1 (fun h => fz_3 (fz_gram g h) (fz_enc hEc h) rfl) ?_ (fun _ => rfl) H
        rw [R_r20_last]
        simp only [Zab,Zac,Zad,Zai,Zaj,Zak,Zam,Zar,Zay,Zaz,Zba,Zbi,Zbk,Zbm,Zbn,Zbo,Zbp,Zbq,Zby,Zcr,Zct,Zcu,Zcv,Zcw,Zcx,List.set_cons_zero,List.set_cons_succ,List.getD_cons_zero,List.getD_cons_succ,Option.bind_some,Option.map_some,Zdj,Zdk,Zdw,Zdy,Zdz,Zea,decide_true,List.getElem?_cons_zero,List.getElem?_cons_succ,List.length_cons,List.length_nil,if_true,Nat.reduceAdd,Nat.reduceSub,Nat.reduceLeDiff,Int.reduceNeg,eq_self,and_self,true_and,List.length_cons,List.length_nil,List.replicate_succ,List.replicate_zero,List.cons_append,List.nil_append,aload,acells,getArr,part,astore,putCells,List.all_cons,List.all_nil,cellOk,Bool.and_self,List.drop_zero,List.drop_succ_cons,List.take_succ_cons,List.take_zero,List.take_nil,List.cons_append,List.nil_append,List.set_cons_zero,h0,resAll,resVals,resVal,Option.some.injEq,Prod.mk.injEq,true_and,exists_eq']
    case neg =>
    by_cases h1 : s = -1 - rk.left
    case neg =>
      have el : lastT g k (.node s (-1) ks) = (.node s (-1) ks, 1) := by simp [lastT, h0, elo, h1]
      rw [el]
      refine ⟨_, hEc, fun H => ?_⟩
      rcases hkv with rfl | ⟨e, rows, rfl⟩
      all_goals
        refine lim_flat rfl rfl P_r20_last 1 (fun h => fz_3 (fz_gram g h) (fz_enc hEc h) rfl) ?_ (fun _ => rfl) H
        rw [R_r20_last]
        simp only [Zaa,Zab,Zac,Zad,Zai,Zaj,Zak,Zam,Zar,Zas,Zay,Zaz,Zba,Zbi,Zbk,Zbm,Zbn,Zbo,Zbp,Zbq,Zby,Zcb,Zcr,Zct,Zcu,Zcv,Zcw,Zcx,List.set_cons_zero,List.set_cons_succ,List.getD_cons_zero,List.getD_cons_succ,Option.bind_some,Option.map_some,Zde,Zdj,Zdk,Zdl,Zdw,Zdx,Zdy,Zdz,Zea,decide_true,decide_false,Bool.not_false,List.getElem?_cons_zero,List.getElem?_cons_succ,List.length_cons,List.length_nil,if_true,Nat.reduceAdd,Nat.reduceSub,Nat.reduceLeDiff,Int.reduceNeg,eq_self,and_self,true_and,List.length_cons,List.length_nil,List.replicate_succ,List.replicate_zero,List.cons_append,List.nil_append,aload,acells,getArr,part,astore,putCells,List.all_cons,List.all_nil,cellOk,Bool.and_self,List.drop_zero,List.drop_succ_cons,List.take_succ_cons,List.take_zero,List.take_nil,List.cons_append,List.nil_append,List.set_cons_zero,h0,hir,hw1,h1,resAll,resVals,resVal,Option.some.injEq,Prod.mk.injEq,true_and,exists_eq']
    case pos =>
      have el : lastT g k (.node s (-1) ks) = (byT g k, 2) := by simp only [lastT,if_true,if_neg h0,elo,if_neg (show ¬ (s ≠ -1 - rk.left) from fun h => h h1)]
      rw [el]
      have h1' : decide (s = -1 - rk.left) = true := decide_eq_true h1
      obtain ⟨c', hc', hb⟩ := r_by hg hrk hk
      refine ⟨c', hc', fun H => ?_⟩
      obtain ⟨kv', rfl, hkv'⟩ := hc'.kv3
      rcases hkv' with rfl | ⟨e, rows, rfl⟩
      all_goals
        refine lim_flat rfl rfl P_r20_last 1 (fun h => fz_3 (fz_gram g h) (fz_enc hEc h) rfl) ?_ (fun _ => rfl) H
        rw [R_r20_last]
        simp only [Zaa,Zab,Zac,Zad,Zai,Zaj,Zak,Zam,Zar,Zas,Zay,Zaz,Zba,Zbi,Zbk,Zbm,Zbn,Zbo,Zbp,Zbq,Zby,Zcb,Zco,Zcp,Zcr,Zct,Zcu,Zcv,Zcw,Zcx,Zcy,Zcz,List.set_cons_zero,List.set_cons_succ,List.getD_cons_zero,List.getD_cons_succ,Option.bind_some,Option.map_some,Zde,Zdj,Zdk,Zdl,Zdw,Zdx,Zdy,Zdz,Zea,decide_true,decide_false,Bool.not_true,List.getElem?_cons_zero,List.getElem?_cons_succ,List.length_cons,List.length_nil,if_true,Nat.reduceAdd,Nat.reduceSub,Nat.reduceLeDiff,Int.reduceNeg,eq_self,and_self,true_and,List.length_cons,List.length_nil,List.replicate_succ,List.replicate_zero,List.cons_append,List.nil_append,aload,acells,getArr,part,astore,putCells,List.all_cons,List.all_nil,cellOk,Bool.and_self,List.drop_zero,List.drop_succ_cons,List.take_succ_cons,List.take_zero,List.take_nil,List.cons_append,List.nil_append,List.set_cons_zero,h0,hir,hw1,h1',hb,resAll,resVals,resVal,Option.some.injEq,Prod.mk.injEq,true_and,exists_eq']
  case neg =>
  have hloop : ∀ (d m : Nat) (z : Int) (h : AHeap), z = (d : Int) - 1 → d ≤ ks.length → d < m → h[0]? = some (.arr 0 5 true [eGram g]) → h[1]? = some (.arr 0 3 true [[.int .i64 s, .int .i64 r, kv]]) → h[2]? = some (.arr 0 3 true [[.int .i64 0, .int .i64 0, .nilS]]) →
      ((lastTs g k (ks.take d)).2 = 0 → ∃ h', loopN (evalCode (lim G0.cfg) (ks.length + 1) B_r20_last_0) m ⟨(.junk::.junk :: .int .i64 k :: .ptr 0 0 0 0 :: .ptr 1 0 0 0 :: .junk :: .ptr 2 0 0 0 :: .junk :: .int .i64 z :: .junk::.junk::.junk::.junk::.junk::.junk::.junk::.junk::.junk::.junk::.junk::.junk::.junk::.junk::.junk::.junk::.junk::.junk::.junk::.junk::.junk::.junk::.junk::.junk::.junk::.junk::.junk::.junk::.junk::.junk::.junk::.junk::.junk::.junk::.junk::.junk::.junk::.junk::.junk::.junk::.junk::.junk::.junk::.junk::.junk::.junk::.junk::.junk::.junk::.junk::.junk::.junk::.junk::.junk::.junk::.junk::.junk::.junk::.junk::.junk::.junk::.junk::.junk::.junk::.junk::.junk::.junk::.junk::.junk::.junk::.junk::.junk::.junk::.junk::.junk::.junk::.junk::.junk::.junk::.junk :: []), h⟩ = some (.exit 0, ⟨(.junk::.junk::.junk::.junk :: .ptr 1 0 0 0 :: .junk :: .ptr 2 0 0 0 :: .junk::.junk::.junk::.junk::.junk::.junk::.junk::.junk::.junk::.junk::.junk::.junk::.junk::.junk::.junk::.junk::.junk::.junk::.junk::.junk::.junk::.junk::.junk::.junk::.junk::.junk::.junk::.junk::.junk::.junk::.junk::.junk::.junk::.junk::.junk::.junk::.junk::.junk::.junk::.junk::.junk::.junk::.junk::.junk::.junk::.junk::.junk::.junk::.junk::.junk::.junk::.junk::.junk::.junk::.junk::.junk::.junk::.junk::.junk::.junk::.junk::.junk::.junk::.junk::.junk::.junk::.junk::.junk::.junk::.junk::.junk::.junk::.junk::.junk::.junk::.junk::.junk::.junk::.junk::.junk::.junk::.junk :: []), h'⟩) ∧ h'[1]? = some (.arr 0 3 true [[.int .i64 s, .int .i64 r, kv]]) ∧ h'[2]? = some (.arr 0 3 true [[.int .i64 0, .int .i64 0, .nilS]])) ∧
      ((lastTs g k (ks.take d)).2 ≠ 0 → ∃ v' h', loopN (evalCode (lim G0.cfg) (ks.length + 1) B_r20_last_0) m ⟨(.junk::.junk :: .int .i64 k :: .ptr 0 0 0 0 :: .ptr 1 0 0 0 :: .junk :: .ptr 2 0 0 0 :: .junk :: .int .i64 z :: .junk::.junk::.junk::.junk::.junk::.junk::.junk::.junk::.junk::.junk::.junk::.junk::.junk::.junk::.junk::.junk::.junk::.junk::.junk::.junk::.junk::.junk::.junk::.junk::.junk::.junk::.junk::.junk::.junk::.junk::.junk::.junk::.junk::.junk::.junk::.junk::.junk::.junk::.junk::.junk::.junk::.junk::.junk::.junk::.junk::.junk::.junk::.junk::.junk::.junk::.junk::.junk::.junk::.junk::.junk::.junk::.junk::.junk::.junk::.junk::.junk::.junk::.junk::.junk::.junk::.junk::.junk::.junk::.junk::.junk::.junk::.junk::.junk::.junk::.junk::.junk::.junk::.junk::.junk::.junk :: []), h⟩ = some (.ret, ⟨(.junk::.junk::.junk::.junk::.junk::.junk :: .ptr 2 0 0 0 :: .int .i64 (lastTs g k (ks.take d)).2 :: .junk::.junk::.junk::.junk::.junk::.junk::.junk::.junk::.junk::.junk::.junk::.junk::.junk::.junk::.junk::.junk::.junk::.junk::.junk::.junk::.junk::.junk::.junk::.junk::.junk::.junk::.junk::.junk::.junk::.junk::.junk::.junk::.junk::.junk::.junk::.junk::.junk::.junk::.junk::.junk::.junk::.junk::.junk::.junk::.junk::.junk::.junk::.junk::.junk::.junk::.junk::.junk::.junk::.junk::.junk::.junk::.junk::.junk::.junk::.junk::.junk::.junk::.junk::.junk::.junk::.junk::.junk::.junk::.junk::.junk::.junk::.junk::.junk::.junk::.junk::.junk::.junk::.junk::.junk::.junk::.junk :: []), h'⟩) ∧ h'[2]? = some (.arr 0 3 true [[.int .i64 s, .int .i64 r, v']]) ∧ OwnT ((lastTs g k (ks.take d)).1 ++ ks.drop d) v' h') := by
    intro d
    induction d with
    | zero =>
      intro m z h hz h1 h3 e0 e1 e2
      obtain ⟨m, rfl⟩ : ∃ q, m = q + 1 := ⟨m - 1, by omega⟩
      have h5 : ¬ ((0 : Int) ≤ z) := by omega
      refine ⟨fun _ => ⟨h, ?_, e1, e2⟩, fun hn => absurd rfl hn⟩
      simp only [loop_e,EB_r20_last_0,Zab,Zac,Zad,Zag,Zah,Zaj,Zak,Zal,Zas,Zav,Zay,Zbi,Zbk,Zbq,Zcu,Zcv,Zcw,Zda,Zdb,Zdc,List.set_cons_zero,List.set_cons_succ,List.getD_cons_zero,List.getD_cons_succ,Zdj,decide_false,eq_self,List.set_cons_zero,h5]
    | succ d ihd =>
      intro m z h hz h1 h3 e0 e1 e2
      obtain ⟨m, rfl⟩ : ∃ q, m = q + 1 := ⟨m - 1, by omega⟩
      have hz' : z = (d : Int) := by omega
      subst hz'
      have h5 : (0 : Int) ≤ d := by omega
      have hd : d < ks.length := by omega
      have hw : IntKind.i64.wrap ((d : Int) - 1) = (d : Int) - 1 := w64 (by omega) (by omega)
      have hmem : ks[d] ∈ ks := List.getElem_mem hd
      obtain ⟨ci, ei, xi⟩ := ix d hd
      have hsk : sizeN ks[d] ≤ 1000000 := by have := sizeNs_mem hmem; simp only [sizeN] at hN; omega
      obtain ⟨c', e', hl⟩ := ih ks[d] hmem hsk ci ei
      obtain ⟨ki, rfl, hki⟩ := ei.kv3
      have hE' := e'
      obtain ⟨k', rfl, hk'⟩ := e'.kv3
      have app : ks.take (d + 1) = ks.take d ++ [ks[d]] := List.take_succ_eq_append_getElem hd
      have drp : ks.drop d = ks[d] :: ks.drop (d + 1) := List.drop_eq_getElem_cons hd
      rw [app, lastTs_app]
      have a0 : ∀ l : AHeap, (h ++ l)[0]? = some (.arr 0 5 true [eGram g]) := fun l => get_app e0 l
      have a1 : ∀ l : AHeap, (h ++ l)[1]? = some (.arr 0 3 true [[.int .i64 s, .int .i64 r, kv]]) := fun l => get_app e1 l
      have a2 : ∀ l : AHeap, (h ++ l)[2]? = some (.arr 0 3 true [[.int .i64 0, .int .i64 0, .nilS]]) := fun l => get_app e2 l
      by_cases q : (lastT g k ks[d]).2 = 0
      case pos =>
        rw [if_pos q]
        obtain ⟨A, B⟩ := ihd m ((d : Int) - 1) (h ++ [.arr 0 3 true [[.int .i64 (lastT g k ks[d]).1.sym, .int .i64 (lastT g k ks[d]).1.rule, k']]]) rfl (by omega) (by omega) (a0 _) (a1 _) (a2 _)
        have step : loopN (evalCode (lim G0.cfg) (ks.length + 1) B_r20_last_0) (m + 1) ⟨(.junk::.junk :: .int .i64 k :: .ptr 0 0 0 0 :: .ptr 1 0 0 0 :: .junk :: .ptr 2 0 0 0 :: .junk :: .int .i64 d :: .junk::.junk::.junk::.junk::.junk::.junk::.junk::.junk::.junk::.junk::.junk::.junk::.junk::.junk::.junk::.junk::.junk::.junk::.junk::.junk::.junk::.junk::.junk::.junk::.junk::.junk::.junk::.junk::.junk::.junk::.junk::.junk::.junk::.junk::.junk::.junk::.junk::.junk::.junk::.junk::.junk::.junk::.junk::.junk::.junk::.junk::.junk::.junk::.junk::.junk::.junk::.junk::.junk::.junk::.junk::.junk::.junk::.junk::.junk::.junk::.junk::.junk::.junk::.junk::.junk::.junk::.junk::.junk::.junk::.junk::.junk::.junk::.junk::.junk::.junk::.junk::.junk::.junk::.junk::.junk :: []), h⟩ = loopN (evalCode (lim G0.cfg) (ks.length + 1) B_r20_last_0) m ⟨(.junk::.junk :: .int .i64 k :: .ptr 0 0 0 0 :: .ptr 1 0 0 0 :: .junk :: .ptr 2 0 0 0 :: .junk :: .int .i64 ((d : Int) - 1) :: .junk::.junk::.junk::.junk::.junk::.junk::.junk::.junk::.junk::.junk::.junk::.junk::.junk::.junk::.junk::.junk::.junk::.junk::.junk::.junk::.junk::.junk::.junk::.junk::.junk::.junk::.junk::.junk::.junk::.junk::.junk::.junk::.junk::.junk::.junk::.junk::.junk::.junk::.junk::.junk::.junk::.junk::.junk::.junk::.junk::.junk::.junk::.junk::.junk::.junk::.junk::.junk::.junk::.junk::.junk::.junk::.junk::.junk::.junk::.junk::.junk::.junk::.junk::.junk::.junk::.junk::.junk::.junk::.junk::.junk::.junk::.junk::.junk::.junk::.junk::.junk::.junk::.junk::.junk::.junk :: []), h ++ [.arr 0 3 true [[.int .i64 (lastT g k ks[d]).1.sym, .int .i64 (lastT g k ks[d]).1.rule, k']]]⟩ := by
          rcases hk' with rfl | ⟨e, rows, rfl⟩ <;> simp only [loop_e,EB_r20_last_0,Zaa,Zab,Zac,Zad,Zae,Zag,Zah,Zaj,Zak,Zal,Zap,Zar,Zau,Zay,Zaz,Zba,Zbi,Zbk,Zbm,Zbo,Zbp,Zbq,Zby,Zcb,Zcf,Zco,Zcp,Zcu,Zcv,Zcw,Zcx,Zcy,Zcz,Zda,Zdb,Zdc,List.set_cons_zero,List.set_cons_succ,List.getD_cons_zero,List.getD_cons_succ,Option.bind_some,Zde,Zdj,Zdk,Zdw,Zdy,Zdz,Zea,Zel,decide_true,List.getElem?_cons_zero,List.getElem?_cons_succ,List.length_cons,List.length_nil,if_true,Nat.reduceAdd,Nat.reduceLeDiff,eq_self,and_self,aload,acells,getArr,part,astore,putCells,get_new,set_new,List.all_cons,List.all_nil,cellOk,Bool.and_self,List.drop_zero,List.drop_succ_cons,List.take_succ_cons,List.take_zero,List.take_nil,List.cons_append,List.nil_append,List.set_cons_zero,h5,e0,e1,xi,hl,q,hw]
        rw [step]
        refine ⟨A, fun h0 => ?_⟩
        obtain ⟨v', h', e, g1, g2⟩ := B h0
        refine ⟨v', h', e, g1, ?_⟩
        rw [drp] at g2
        simpa using g2
      case neg =>
        rw [if_neg q]
        refine ⟨fun h0 => absurd h0 q, fun _ => ?_⟩
        have hst : ks.take d ++ [(lastT g k ks[d]).1] ++ ks.drop (d + 1) = ks.set d (lastT g k ks[d]).1 := by
          rw [List.set_eq_take_append_cons_drop, if_pos hd]; simp
        obtain ⟨v', h', e, g1, g2, g3⟩ := r_last_copy (s := s) (r := r) (how := (lastT g k ks[d]).2) ix ll hsz d (lastT g k ks[d]).1 _ hE' h.length (h.length + 1) (ks.length + 1) (by omega) ⟨by have := get_len e2; omega, by have := get_len e2; omega⟩ ks.length 0 (ks.length + 1) .nilS
          (h ++ [.arr 0 3 true [[.int .i64 (lastT g k ks[d]).1.sym, .int .i64 (lastT g k ks[d]).1.rule, k']], .arr 0 3 true [[.int .i64 s, .int .i64 r, .nilS]]]) (by omega) (by omega) (a1 _) (a2 _) (by rw [hap_get0]; rfl) (by rw [hap_get]; rfl) (OwnT.nil _)
        rw [z0] at e
        have g1' := get_set_eq (y := AObj.arr 0 3 true [[.int .i64 s, .int .i64 r, v']]) g1
        refine ⟨v', h'.set 2 (.arr 0 3 true [[.int .i64 s, .int .i64 r, v']]), ?_, g1', by rw [hst]; exact g3.set g1 (fun _ _ e => by cases e) _⟩
        have hv : (v' = .nilS ∨ ∃ i ver n, v' = .hsl i ver 0 n none) := by
          rcases g3 with ⟨_, h⟩ | ⟨_, i, ver, _, h, _⟩
          · exact .inl h
          · exact .inr ⟨i, ver, _, h⟩
        rcases hk' with rfl | ⟨e9, rows, rfl⟩ <;> rcases hv with rfl | ⟨i, ver, n, rfl⟩ <;> simp only [loop_e,EB_r20_last_0,Zaa,Zab,Zac,Zad,Zae,Zaf,Zag,Zai,Zaj,Zak,Zam,Zao,Zap,Zar,Zas,Zat,Zaw,Zay,Zaz,Zba,Zbi,Zbk,Zbm,Zbo,Zbp,Zbq,Zby,Zcb,Zcf,Zcl,Zco,Zcp,Zcu,Zcv,Zcw,Zcx,Zcy,Zcz,Zda,Zdb,Zdc,List.set_cons_zero,List.set_cons_succ,List.getD_cons_zero,List.getD_cons_succ,Option.bind_some,Option.map_some,Zdj,Zdk,Zdw,Zdy,Zdz,Zea,Zeb,Zel,decide_true,decide_false,List.getElem?_cons_zero,List.getElem?_cons_succ,List.length_cons,List.length_nil,if_true,Nat.reduceAdd,Nat.reduceLeDiff,eq_self,and_self,aload,acells,getArr,part,astore,putCells,List.all_cons,List.all_nil,cellOk,Bool.and_self,List.drop_zero,List.drop_succ_cons,List.take_succ_cons,List.take_zero,List.take_nil,List.cons_append,List.nil_append,List.set_cons_zero,h5,e0,e1,a1,xi,hl,q,hap_get0,hap_get,hap_set0,hap_set,List.append_assoc,List.length_append,evp,afill,fillCells,Nat.reduceLT,e,g1,g2]
  obtain ⟨A, B⟩ := hloop ks.length (ks.length + 1) ((ks.length : Int) - 1) [.arr 0 5 true [eGram g], .arr 0 3 true [[.int .i64 s, .int .i64 r, kv]], .arr 0 3 true [[.int .i64 0, .int .i64 0, .nilS]]] rfl (Nat.le_refl _) (by omega) rfl rfl rfl
  rw [List.take_length] at A B
  rw [List.drop_length, List.append_nil] at B
  have hw : IntKind.i64.wrap ((ks.length : Int) - 1) = (ks.length : Int) - 1 := w64 (by omega) (by omega)
  by_cases q : (lastTs g k ks).2 = 0
  case pos =>
    have el : lastT g k (.node s r ks) = (.node s r ks, 0) := by simp only [lastT,if_neg hr,if_pos q]
    rw [el]
    obtain ⟨h', e, g1, g2⟩ := A q
    refine ⟨_, hEc, fun H => ?_⟩
    have g2' := fun y => get_set_eq (y := y) g2
    rcases hkv with rfl | ⟨e9, rows, rfl⟩
    all_goals
      refine lim_flat rfl rfl P_r20_last (ks.length + 1) (fun h => fz_3 (fz_gram g h) (fz_enc hEc h) rfl) ?_ (fun _ => rfl) H
      rw [R_r20_last]
      simp only [Zaa,Zab,Zac,Zad,Zae,Zaf,Zag,Zai,Zaj,Zak,Zap,Zas,Zat,Zay,Zaz,Zba,Zbi,Zbk,Zbm,Zbn,Zbo,Zbp,Zbq,Zby,Zcg,Zcr,Zct,Zcu,Zcv,Zcw,Zcx,Zda,Zdb,Zdc,List.set_cons_zero,List.set_cons_succ,List.getD_cons_zero,List.getD_cons_succ,Option.bind_some,Option.map_some,Zde,Zdk,Zdw,Zdy,Zdz,Zea,decide_false,List.getElem?_cons_zero,List.getElem?_cons_succ,List.length_cons,List.length_nil,if_true,Nat.reduceAdd,Nat.reduceSub,Nat.reduceLeDiff,Int.reduceNeg,eq_self,and_self,true_and,List.length_cons,List.length_nil,List.replicate_succ,List.replicate_zero,List.cons_append,List.nil_append,aload,acells,getArr,part,astore,putCells,List.all_cons,List.all_nil,cellOk,Bool.and_self,List.drop_zero,List.drop_succ_cons,List.take_succ_cons,List.take_zero,List.take_nil,List.cons_append,List.nil_append,List.set_cons_zero,hr,ll,hw,e,g1,g2,g2',resAll,resVals,resVal,Option.some.injEq,Prod.mk.injEq,true_and,exists_eq']
  case neg =>
    have el : lastT g k (.node s r ks) = (.node s r (lastTs g k ks).1, (lastTs g k ks).2) := by simp only [lastT,if_neg hr,if_neg q]
    rw [el]
    obtain ⟨v', h', e, g1, g2⟩ := B q
    obtain ⟨cf, x, hf, hx⟩ := g2.freeze (d := 996)
    have hE : Enc (.node s r (lastTs g k ks).1) [.int .i64 s, .int .i64 r, x] := ⟨x, rfl, hx⟩
    refine ⟨_, hE, fun H => ?_⟩
    have hrun : runFn (lim G0.cfg) (ks.length + 1) A_r20_last [.agg (eGram g), .agg [.int .i64 s, .int .i64 r, kv], .int .i64 k] [] = some (.tup [.agg [.int .i64 s, .int .i64 r, v'], .int .i64 (lastTs g k ks).2], h') := by
      rw [R_r20_last]
      simp only [Zaa,Zab,Zac,Zad,Zae,Zaf,Zag,Zaj,Zak,Zam,Zao,Zas,Zat,Zay,Zaz,Zbi,Zbk,Zbm,Zbn,Zbo,Zbq,Zby,Zcg,Zcr,Zct,Zcu,Zcv,Zcw,Zda,Zdb,Zdc,List.set_cons_zero,List.set_cons_succ,List.getD_cons_zero,List.getD_cons_succ,Option.bind_some,Option.map_some,Zde,Zdk,Zdw,Zdy,Zdz,Zea,decide_false,List.getElem?_cons_zero,List.getElem?_cons_succ,List.length_cons,List.length_nil,if_true,Nat.reduceAdd,Nat.reduceSub,Nat.reduceLeDiff,Int.reduceNeg,eq_self,List.length_cons,List.length_nil,List.replicate_succ,List.replicate_zero,List.cons_append,List.nil_append,aload,acells,getArr,part,List.drop_zero,List.drop_succ_cons,List.take_succ_cons,List.take_zero,List.take_nil,List.cons_append,List.nil_append,List.set_cons_zero,hr,ll,hw,e,g1,resAll,resVals,resVal]
    have e1 : freeze h' 1000 (.tup [.agg [.int .i64 s, .int .i64 r, v'], .int .i64 (lastTs g k ks).2]) = (mapO (freeze h' 999) [.agg [.int .i64 s, .int .i64 r, v'], .int .i64 (lastTs g k ks).2]).map fun l => (.tup (l.map (·.1)), l.all (·.2)) := rfl
    have e2 : freeze h' 999 (.agg [.int .i64 s, .int .i64 r, v']) = (mapO (freeze h' 998) [.int .i64 s, .int .i64 r, v']).map fun l => (.agg (l.map (·.1)), l.all (·.2)) := rfl
    rw [mapO_3 (rfl : freeze _ 998 (.int .i64 s) = some (.int .i64 s, true)) (rfl : freeze _ 998 (.int .i64 r) = some (.int .i64 r, true)) hf] at e2
    refine lim_at rfl rfl P_r20_last (ks.length + 1) (fun h => fz_3 (fz_gram g h) (fz_enc hEc h) rfl) hrun (c := (true && (true && (cf && true))) && (true && true)) ?_ H
    rw [e1, mapO_2 e2 (rfl : freeze h' 999 (.int .i64 (lastTs g k ks).2) = some (.int .i64 (lastTs g k ks).2, true))]
    rfl
end Go.Proofs.Ytkimloceaihplaa.Ai
namespace Go.Proofs.Ytkimloceaihplaa.Ai
open Go Go.Proofs
set_option linter.unusedVariables false
set_option linter.unusedSimpArgs false
set_option maxRecDepth 10000
set_option maxHeartbeats 4000000

theorem r_YieldE : ∀ t, sizeN t ≤ 1000000 → ∀ c, Enc t c → ∀ H, lim G0.cfg (.func 18) [.agg c] H = some (encL (yieldT t), H) := by
  intro t
  induction t using T.ind with
  | _ s r ks ih =>
  intro hN c hc H
  have hEc := hc
  obtain ⟨kv, rfl, ll, ix, _⟩ := hc.open
  have hsz : sizeN (.node s r ks) = 1 + sizeNs ks := by simp [sizeN]
  have hlen : (ks.length : Int) ≤ sizeNs ks := len_sizeNs ks
  have loop : ∀ (d i m : Nat) (ys : List Int) (v : AV) (h : AHeap), ks.length = i + d → d < m → ys.length + sizeNs (ks.drop i) ≤ 1000000 → Own ys v h → h[0]? = some (.arr 0 3 true [[.int .i64 s, .int .i64 r, kv]]) →
      ∃ v' h', loopN (evalCode (lim G0.cfg) (ks.length + 1) B_r20_Yield_0) m ⟨[.junk, .ptr 0 0 0 0, .junk, v, .int .i64 i, .junk,.junk,.junk,.junk,.junk,.junk,.junk,.junk,.junk,.junk,.junk,.junk,.junk,.junk,.junk,.junk,.junk,.junk,.junk,.junk,.junk,.junk,.junk,.junk], h⟩ = some (.exit 0, ⟨[.junk, .ptr 0 0 0 0, .junk, v', .junk,.junk,.junk,.junk,.junk,.junk,.junk,.junk,.junk,.junk,.junk,.junk,.junk,.junk,.junk,.junk,.junk,.junk,.junk,.junk,.junk,.junk,.junk,.junk,.junk], h'⟩) ∧ Own (ys ++ yieldTs (ks.drop i)) v' h' ∧
        h'[0]? = some (.arr 0 3 true [[.int .i64 s, .int .i64 r, kv]]) := by
    intro d
    induction d with
    | zero =>
      intro i m ys v h h1 h2 h4 ho hb
      obtain ⟨m, rfl⟩ : ∃ q, m = q + 1 := ⟨m - 1, by omega⟩
      have e1 : ks.drop i = [] := List.drop_eq_nil_iff.2 (by omega)
      have h3 : ¬ ((i : Int) < ks.length) := by omega
      rw [e1]
      exact ⟨v, h, by simp only [loop_e,EB_r20_Yield_0,Zab,Zac,Zad,Zag,Zah,Zaj,Zak,Zal,Zas,Zav,Zay,Zbi,Zbk,Zbo,Zbq,Zby,Zcg,Zcu,Zcw,Zda,Zdb,Zdc,List.set_cons_zero,List.set_cons_succ,List.getD_cons_zero,List.getD_cons_succ,Option.bind_some,Zdg,Zdw,Zdy,decide_false,List.getElem?_cons_zero,List.length_cons,List.length_nil,if_true,Nat.reduceAdd,Nat.reduceLeDiff,eq_self,aload,acells,getArr,part,List.drop_zero,List.drop_succ_cons,List.take_succ_cons,List.take_nil,List.set_cons_zero,hb,ll,h3], by simpa [yieldTs] using ho, hb⟩
    | succ d ihd =>
      intro i m ys v h h1 h2 h4 ho hb
      obtain ⟨m, rfl⟩ : ∃ q, m = q + 1 := ⟨m - 1, by omega⟩
      have h3 : i < ks.length := by omega
      have h3' : (i : Int) < ks.length := by omega
      have e1 : ks.drop i = ks[i] :: ks.drop (i + 1) := List.drop_eq_getElem_cons h3
      have hw := w64s (n := i) (by omega)
      rw [e1] at h4 ⊢
      simp only [sizeNs,yieldTs] at h4 ⊢
      have hmem : ks[i] ∈ ks := List.getElem_mem h3
      obtain ⟨ci, ei, xi⟩ := ix i h3
      have hc := ih ks[i] hmem (by omega) ci ei
      obtain ⟨ki, rfl, hki⟩ := ei.kv3
      have hyl := yieldT_len ks[i]
      obtain ⟨v1, h1', a1, a2, a3⟩ := ho.append (x := encL (yieldT ks[i])) (elems_encL h _) (by omega)
      have hb' := a3 0 _ hb (fun _ _ e => by cases e)
      obtain ⟨v2, h2', b1, b2, b3⟩ := ihd (i + 1) m _ v1 h1' (by omega) (by omega) (by rw [List.length_append]; omega) a2 hb'
      refine ⟨v2, h2', ?_, by rw [← List.append_assoc]; exact b2, b3⟩
      rw [← b1]
      simp only [loop_e,EB_r20_Yield_0,Zaa,Zab,Zac,Zad,Zae,Zag,Zaj,Zak,Zan,Zar,Zau,Zay,Zaz,Zbi,Zbk,Zbo,Zbq,Zby,Zcb,Zcg,Zci,Zco,Zcp,Zcu,Zcv,Zcw,Zcy,Zcz,Zda,Zdb,Zdc,List.set_cons_zero,List.set_cons_succ,List.getD_cons_zero,List.getD_cons_succ,Option.bind_some,Zdd,Zdg,Zdw,Zdy,Zdz,decide_true,List.getElem?_cons_zero,List.length_cons,List.length_nil,if_true,Nat.reduceAdd,Nat.reduceLeDiff,eq_self,aload,acells,getArr,part,List.drop_zero,List.drop_succ_cons,List.take_succ_cons,List.take_nil,List.cons_append,List.nil_append,List.set_cons_zero,hb,ll,h3',xi,hc,a1,hw]
  obtain ⟨v, h', e, ho, hb⟩ := loop ks.length 0 (ks.length + 1) [] .nilS [.arr 0 3 true [[.int .i64 s, .int .i64 r, kv]]] (by omega) (by omega) (by rw [List.drop_zero]; simp; omega) (Own.nil _) rfl
  rw [List.drop_zero, List.nil_append] at ho
  rw [z0] at e
  have hlk := yieldTs_len ks
  by_cases q : r = -1
  case neg =>
    have hR : yieldT (.node s r ks) = yieldTs ks := by simp [yieldT, q]
    rw [hR]
    obtain ⟨c, hfz⟩ := ho.freeze
    refine lim_at rfl rfl P_r20_Yield (ks.length + 1) (fun h => fz_1 (fz_enc hEc h)) ?_ hfz H
    rw [R_r20_Yield]
    simp only [Zaa,Zab,Zac,Zad,Zae,Zaf,Zag,Zai,Zaj,Zak,Zap,Zas,Zat,Zay,Zaz,Zbi,Zbk,Zbn,Zbo,Zbq,Zby,Zcr,Zct,Zcu,Zcv,Zcw,Zda,Zdb,Zdc,List.set_cons_zero,List.set_cons_succ,List.getD_cons_zero,List.getD_cons_succ,Option.bind_some,Option.map_some,Zdk,Zdw,Zdy,Zea,decide_false,List.getElem?_cons_zero,List.length_cons,List.length_nil,if_true,Nat.reduceAdd,Nat.reduceSub,Nat.reduceLeDiff,Int.reduceNeg,eq_self,List.length_cons,List.length_nil,List.replicate_succ,List.replicate_zero,List.cons_append,List.nil_append,aload,acells,getArr,part,List.drop_zero,List.drop_succ_cons,List.take_succ_cons,List.take_zero,List.cons_append,List.nil_append,List.set_cons_zero,e,hb,q,resAll,resVals,resVal]
  case pos =>
    have hR : yieldT (.node s r ks) = yieldTs ks ++ [s] := by simp [yieldT, q]
    rw [hR]
    obtain ⟨v', h2, a, b, c'⟩ := ho.append (zs := [s]) (elems_one h' true s) (by simp; omega)
    obtain ⟨c, hfz⟩ := b.freeze
    refine lim_at rfl rfl P_r20_Yield (ks.length + 1) (fun h => fz_1 (fz_enc hEc h)) ?_ hfz H
    rw [R_r20_Yield]
    subst q
    simp only [Zab,Zac,Zad,Zae,Zaf,Zag,Zai,Zaj,Zak,Zap,Zar,Zat,Zay,Zaz,Zbi,Zbk,Zbn,Zbo,Zbq,Zby,Zci,Zcm,Zcr,Zct,Zcu,Zcv,Zcw,Zda,Zdb,Zdc,List.set_cons_zero,List.set_cons_succ,List.getD_cons_zero,List.getD_cons_succ,Option.bind_some,Option.map_some,Zdk,Zdw,Zdy,Zea,decide_true,List.getElem?_cons_zero,List.length_cons,List.length_nil,if_true,Nat.reduceAdd,Nat.reduceSub,Nat.reduceLeDiff,Int.reduceNeg,eq_self,List.length_cons,List.length_nil,List.replicate_succ,List.replicate_zero,List.cons_append,List.nil_append,aload,acells,getArr,part,List.drop_zero,List.drop_succ_cons,List.take_succ_cons,List.take_zero,List.cons_append,List.nil_append,List.set_cons_zero,e,hb,ev2,lit_one,a,resAll,resVals,resVal]

theorem sizeN_byT (g : GramD) (k : Nat) : (sizeN (byT g k) : Int) = 1 + lenOf g k := by
  unfold byT lenOf
  cases g.rules[k]? with
  | none => rfl
  | some r =>
    have : ∀ l : List Int, sizeNs (l.map leafT) = l.length := by
      intro l
      induction l with
      | nil => rfl
      | cons a l ih => simp only [List.map_cons,sizeNs,ih,leafT,sizeN,List.length_cons]; omega
    simp only [sizeN,this]
    omega
theorem lenOf_nn (g : GramD) (k : Nat) : 0 ≤ lenOf g k := by
  unfold lenOf
  cases g.rules[k]? with
  | none => exact Int.le_refl 0
  | some r => exact Int.natCast_nonneg _
mutual
theorem sizeN_last (g : GramD) (k : Nat) : ∀ t, (sizeN (lastT g k t).1 : Int) ≤ sizeN t + lenOf g k
  | .node s r ks => by
    have hl := lenOf_nn g k
    simp only [lastT]
    split
    · split
      · simp only; omega
      · split
        · simp only; omega
        · simp only [sizeN_byT,sizeN]; omega
    · split
      · simp only; omega
      · have := sizeNs_last g k ks
        simp only [sizeN]; omega
theorem sizeNs_last (g : GramD) (k : Nat) : ∀ ks, (sizeNs (lastTs g k ks).1 : Int) ≤ sizeNs ks + lenOf g k
  | [] => by have hl := lenOf_nn g k; simp only [lastTs,sizeNs]; omega
  | t :: ks => by
    have h1 := sizeN_last g k t
    have h2 := sizeNs_last g k ks
    simp only [lastTs]
    split <;> simp only [sizeNs] <;> omega
end

def errR (R : (T × Int) × (List Int × Int)) : Int := if R.1.2 ≠ 0 then R.1.2 else if R.2.1 = [] then 0 else 3

theorem zero_tree : Enc zeroT [.int .i64 0, .int .i64 0, .nilS] := ⟨.nilS, rfl, .inl ⟨rfl, rfl⟩⟩

/-- What the specification's Of answers. -/
def ofD (g : GramD) (ws ms : List Int) : T × Int :=
  if gramErr g ≠ 0 then (zeroT, gramErr g)
  else if ws.any (outB 0 g.terms.length) then (zeroT, 21)
  else if ms.any (outB 1 g.rules.length) then (zeroT, 22)
  else if errR (rewr g ms.reverse (byT g 0) 2) ≠ 0 then (zeroT, errR (rewr g ms.reverse (byT g 0) 2))
  else if yieldT (rewr g ms.reverse (byT g 0) 2).1.1 = ws then ((rewr g ms.reverse (byT g 0) 2).1.1, 0)
  else (zeroT, 9)

theorem r_Of_scan0 {g : GramD} (hg : g.Ok) (ws : List Int) (hw : ws.length ≤ 1000000) (mv : AV) (N : Nat) (h : AHeap) (e0 : h[0]? = some (.arr 0 5 true [eGram g])) (e1 : h[1]? = some (.arr 0 3 true [[.int .i64 0, .int .i64 0, .nilS]])) : ∀ (d i m : Nat), ws.length = i + d → d < m →
    loopN (evalCode (lim G0.cfg) N B_r20_Of_0) m ⟨(.junk :: .vsl false (eIs ws) :: mv :: .ptr 0 0 0 0 :: .junk::.junk :: .ptr 1 0 0 0 :: .junk::.junk :: .int .i64 i :: .junk::.junk::.junk::.junk::.junk::.junk::.junk::.junk::.junk::.junk::.junk::.junk::.junk::.junk::.junk::.junk::.junk::.junk::.junk::.junk::.junk::.junk::.junk::.junk::.junk::.junk::.junk::.junk::.junk::.junk::.junk::.junk::.junk::.junk::.junk::.junk::.junk::.junk::.junk::.junk::.junk::.junk::.junk::.junk::.junk::.junk::.junk::.junk::.junk::.junk::.junk::.junk::.junk::.junk::.junk::.junk::.junk::.junk::.junk::.junk::.junk::.junk::.junk::.junk::.junk::.junk::.junk::.junk::.junk::.junk::.junk::.junk::.junk::.junk::.junk::.junk::.junk::.junk::.junk::.junk::.junk::.junk::.junk::.junk::.junk::.junk::.junk::.junk::.junk::.junk::.junk::.junk::.junk::.junk::.junk::.junk::.junk::.junk::.junk::.junk::.junk::.junk::.junk::.junk::.junk::.junk::.junk::.junk::.junk::.junk::.junk::.junk::.junk::.junk::.junk::.junk::.junk::.junk::.junk::.junk::.junk::.junk::.junk::.junk::.junk::.junk::.junk::.junk::.junk::.junk :: []), h⟩ = bif (ws.drop i).any (outB 0 g.terms.length) then some (.ret, ⟨(.junk::.junk::.junk::.junk::.junk::.junk :: .ptr 1 0 0 0 :: .int .i64 21 :: .junk::.junk::.junk::.junk::.junk::.junk::.junk::.junk::.junk::.junk::.junk::.junk::.junk::.junk::.junk::.junk::.junk::.junk::.junk::.junk::.junk::.junk::.junk::.junk::.junk::.junk::.junk::.junk::.junk::.junk::.junk::.junk::.junk::.junk::.junk::.junk::.junk::.junk::.junk::.junk::.junk::.junk::.junk::.junk::.junk::.junk::.junk::.junk::.junk::.junk::.junk::.junk::.junk::.junk::.junk::.junk::.junk::.junk::.junk::.junk::.junk::.junk::.junk::.junk::.junk::.junk::.junk::.junk::.junk::.junk::.junk::.junk::.junk::.junk::.junk::.junk::.junk::.junk::.junk::.junk::.junk::.junk::.junk::.junk::.junk::.junk::.junk::.junk::.junk::.junk::.junk::.junk::.junk::.junk::.junk::.junk::.junk::.junk::.junk::.junk::.junk::.junk::.junk::.junk::.junk::.junk::.junk::.junk::.junk::.junk::.junk::.junk::.junk::.junk::.junk::.junk::.junk::.junk::.junk::.junk::.junk::.junk::.junk::.junk::.junk::.junk::.junk::.junk::.junk::.junk::.junk::.junk :: []), h.set 1 (.arr 0 3 true [[.int .i64 0, .int .i64 0, .nilS]])⟩) else some (.exit 0, ⟨(.junk :: .vsl false (eIs ws) :: mv :: .ptr 0 0 0 0 :: .junk::.junk :: .ptr 1 0 0 0 :: .junk::.junk::.junk::.junk::.junk::.junk::.junk::.junk::.junk::.junk::.junk::.junk::.junk::.junk::.junk::.junk::.junk::.junk::.junk::.junk::.junk::.junk::.junk::.junk::.junk::.junk::.junk::.junk::.junk::.junk::.junk::.junk::.junk::.junk::.junk::.junk::.junk::.junk::.junk::.junk::.junk::.junk::.junk::.junk::.junk::.junk::.junk::.junk::.junk::.junk::.junk::.junk::.junk::.junk::.junk::.junk::.junk::.junk::.junk::.junk::.junk::.junk::.junk::.junk::.junk::.junk::.junk::.junk::.junk::.junk::.junk::.junk::.junk::.junk::.junk::.junk::.junk::.junk::.junk::.junk::.junk::.junk::.junk::.junk::.junk::.junk::.junk::.junk::.junk::.junk::.junk::.junk::.junk::.junk::.junk::.junk::.junk::.junk::.junk::.junk::.junk::.junk::.junk::.junk::.junk::.junk::.junk::.junk::.junk::.junk::.junk::.junk::.junk::.junk::.junk::.junk::.junk::.junk::.junk::.junk::.junk::.junk::.junk::.junk::.junk::.junk::.junk::.junk::.junk::.junk::.junk::.junk::.junk :: []), h⟩) := by
  intro d
  induction d with
  | zero =>
    intro i m h1 h2
    obtain ⟨m, rfl⟩ : ∃ q, m = q + 1 := ⟨m - 1, by omega⟩
    have h3 : ¬ ((i : Int) < ws.length) := by omega
    have q1 : ws.drop i = [] := List.drop_eq_nil_iff.2 (by omega)
    rw [q1]
    simp only [loop_e,EB_r20_Of_0,Zab,Zac,Zad,Zag,Zah,Zaj,Zak,Zal,Zas,Zav,Zay,Zbi,Zbk,Zbq,Zcg,Zcu,Zcw,Zda,Zdb,Zdc,List.set_cons_zero,List.set_cons_succ,List.getD_cons_zero,List.getD_cons_succ,Zdg,Zds,Zeo,decide_false,eq_self,cond_false,h3,List.any_nil]
  | succ d ih =>
    intro i m h1 h2
    obtain ⟨m, rfl⟩ : ∃ q, m = q + 1 := ⟨m - 1, by omega⟩
    have h3 : i < ws.length := by omega
    have h3' : (i : Int) < ws.length := by omega
    have hw' := w64s (n := i) (by omega)
    have q1 : ws.drop i = ws[i] :: ws.drop (i + 1) := List.drop_eq_getElem_cons h3
    have xx := fun h => ix_eIs h false ws .i64 i h3
    rw [q1, List.any_cons]
    by_cases a : ws[i] < 0
    case pos =>
      have b : outB 0 g.terms.length ws[i] = true := by simp [outB, a]
      simp only [loop_e,EB_r20_Of_0,Zaa,Zab,Zac,Zad,Zae,Zag,Zai,Zaj,Zak,Zam,Zao,Zar,Zaw,Zay,Zba,Zbd,Zbg,Zbi,Zbj,Zbk,Zbl,Zbo,Zbp,Zbq,Zcb,Zcg,Zcl,Zcu,Zcv,Zcw,Zcx,Zda,Zdb,Zdc,List.set_cons_zero,List.set_cons_succ,List.getD_cons_zero,List.getD_cons_succ,Option.bind_some,Option.map_some,Zdg,Zds,Zdy,Zea,Zeo,decide_true,List.getElem?_cons_zero,List.length_cons,List.length_nil,if_true,Nat.reduceAdd,Nat.reduceLeDiff,eq_self,and_self,cond_true,aload,acells,getArr,part,eI,astore,putCells,List.all_cons,List.all_nil,cellOk,Bool.and_self,List.drop_zero,List.drop_succ_cons,List.take_succ_cons,List.take_zero,List.take_nil,List.cons_append,List.nil_append,List.set_cons_zero,h3',xx,a,b,evp,afill,fillCells,e1,Bool.true_or]
    case neg =>
    by_cases b' : (g.terms.length : Int) ≤ ws[i]
    case pos =>
      have b : outB 0 g.terms.length ws[i] = true := by simp [outB, b']
      simp only [loop_e,EB_r20_Of_0,Zaa,Zab,Zac,Zad,Zae,Zag,Zai,Zaj,Zak,Zam,Zao,Zar,Zaw,Zay,Zba,Zbc,Zbh,Zbi,Zbj,Zbk,Zbl,Zbo,Zbp,Zbq,Zby,Zcb,Zcg,Zcl,Zcu,Zcv,Zcw,Zcx,Zda,Zdb,Zdc,List.set_cons_zero,List.set_cons_succ,List.getD_cons_zero,List.getD_cons_succ,Option.bind_some,Option.map_some,Zdg,Zdj,Zds,Zdw,Zdy,Zea,Zeo,Zep,decide_true,decide_false,List.getElem?_cons_zero,List.length_cons,List.length_nil,if_true,Nat.reduceAdd,Nat.reduceLeDiff,eq_self,and_self,cond_true,aload,acells,getArr,part,eI,astore,putCells,List.all_cons,List.all_nil,cellOk,Bool.and_self,List.drop_zero,List.drop_succ_cons,List.take_succ_cons,List.take_zero,List.take_nil,List.cons_append,List.nil_append,List.set_cons_zero,h3',xx,a,b',b,evp,afill,fillCells,e0,e1,Bool.true_or]
    case neg =>
      have b : outB 0 g.terms.length ws[i] = false := by simp only [outB,Bool.or_eq_false_iff,decide_eq_false_iff_not]; omega
      rw [b, Bool.false_or, ← ih (i + 1) m (by omega) (by omega)]
      simp only [loop_e,EB_r20_Of_0,Zaa,Zab,Zac,Zad,Zae,Zag,Zaj,Zak,Zan,Zar,Zas,Zau,Zay,Zbc,Zbh,Zbi,Zbj,Zbk,Zbl,Zbo,Zbq,Zby,Zcb,Zcg,Zcu,Zcv,Zcw,Zda,Zdb,Zdc,List.set_cons_zero,List.set_cons_succ,List.getD_cons_zero,List.getD_cons_succ,Option.bind_some,Zdd,Zdg,Zdj,Zds,Zdw,Zdy,Zeo,Zep,decide_true,decide_false,List.getElem?_cons_zero,List.length_cons,List.length_nil,if_true,Nat.reduceAdd,Nat.reduceLeDiff,eq_self,aload,acells,getArr,part,eI,List.drop_zero,List.take_succ_cons,List.take_zero,List.take_nil,List.set_cons_zero,h3',xx,a,b',e0,hw']
theorem r_Of_scan1 {g : GramD} (hg : g.Ok) (ms : List Int) (hw : ms.length ≤ 1000000) (wv : AV) (N : Nat) (h : AHeap) (e0 : h[0]? = some (.arr 0 5 true [eGram g])) (e1 : h[1]? = some (.arr 0 3 true [[.int .i64 0, .int .i64 0, .nilS]])) : ∀ (d i m : Nat), ms.length = i + d → d < m →
    loopN (evalCode (lim G0.cfg) N B_r20_Of_1) m ⟨(.junk :: wv :: .vsl false (eIs ms) :: .ptr 0 0 0 0 :: .junk::.junk :: .ptr 1 0 0 0 :: .junk::.junk::.junk :: .int .i64 i :: .junk::.junk::.junk::.junk::.junk::.junk::.junk::.junk::.junk::.junk::.junk::.junk::.junk::.junk::.junk::.junk::.junk::.junk::.junk::.junk::.junk::.junk::.junk::.junk::.junk::.junk::.junk::.junk::.junk::.junk::.junk::.junk::.junk::.junk::.junk::.junk::.junk::.junk::.junk::.junk::.junk::.junk::.junk::.junk::.junk::.junk::.junk::.junk::.junk::.junk::.junk::.junk::.junk::.junk::.junk::.junk::.junk::.junk::.junk::.junk::.junk::.junk::.junk::.junk::.junk::.junk::.junk::.junk::.junk::.junk::.junk::.junk::.junk::.junk::.junk::.junk::.junk::.junk::.junk::.junk::.junk::.junk::.junk::.junk::.junk::.junk::.junk::.junk::.junk::.junk::.junk::.junk::.junk::.junk::.junk::.junk::.junk::.junk::.junk::.junk::.junk::.junk::.junk::.junk::.junk::.junk::.junk::.junk::.junk::.junk::.junk::.junk::.junk::.junk::.junk::.junk::.junk::.junk::.junk::.junk::.junk::.junk::.junk::.junk::.junk::.junk::.junk::.junk::.junk :: []), h⟩ = bif (ms.drop i).any (outB 1 g.rules.length) then some (.ret, ⟨(.junk::.junk::.junk::.junk::.junk::.junk :: .ptr 1 0 0 0 :: .int .i64 22 :: .junk::.junk::.junk::.junk::.junk::.junk::.junk::.junk::.junk::.junk::.junk::.junk::.junk::.junk::.junk::.junk::.junk::.junk::.junk::.junk::.junk::.junk::.junk::.junk::.junk::.junk::.junk::.junk::.junk::.junk::.junk::.junk::.junk::.junk::.junk::.junk::.junk::.junk::.junk::.junk::.junk::.junk::.junk::.junk::.junk::.junk::.junk::.junk::.junk::.junk::.junk::.junk::.junk::.junk::.junk::.junk::.junk::.junk::.junk::.junk::.junk::.junk::.junk::.junk::.junk::.junk::.junk::.junk::.junk::.junk::.junk::.junk::.junk::.junk::.junk::.junk::.junk::.junk::.junk::.junk::.junk::.junk::.junk::.junk::.junk::.junk::.junk::.junk::.junk::.junk::.junk::.junk::.junk::.junk::.junk::.junk::.junk::.junk::.junk::.junk::.junk::.junk::.junk::.junk::.junk::.junk::.junk::.junk::.junk::.junk::.junk::.junk::.junk::.junk::.junk::.junk::.junk::.junk::.junk::.junk::.junk::.junk::.junk::.junk::.junk::.junk::.junk::.junk::.junk::.junk::.junk::.junk :: []), h.set 1 (.arr 0 3 true [[.int .i64 0, .int .i64 0, .nilS]])⟩) else some (.exit 2, ⟨(.junk :: wv :: .vsl false (eIs ms) :: .ptr 0 0 0 0 :: .junk::.junk :: .ptr 1 0 0 0 :: .junk::.junk::.junk::.junk::.junk::.junk::.junk::.junk::.junk::.junk::.junk::.junk::.junk::.junk::.junk::.junk::.junk::.junk::.junk::.junk::.junk::.junk::.junk::.junk::.junk::.junk::.junk::.junk::.junk::.junk::.junk::.junk::.junk::.junk::.junk::.junk::.junk::.junk::.junk::.junk::.junk::.junk::.junk::.junk::.junk::.junk::.junk::.junk::.junk::.junk::.junk::.junk::.junk::.junk::.junk::.junk::.junk::.junk::.junk::.junk::.junk::.junk::.junk::.junk::.junk::.junk::.junk::.junk::.junk::.junk::.junk::.junk::.junk::.junk::.junk::.junk::.junk::.junk::.junk::.junk::.junk::.junk::.junk::.junk::.junk::.junk::.junk::.junk::.junk::.junk::.junk::.junk::.junk::.junk::.junk::.junk::.junk::.junk::.junk::.junk::.junk::.junk::.junk::.junk::.junk::.junk::.junk::.junk::.junk::.junk::.junk::.junk::.junk::.junk::.junk::.junk::.junk::.junk::.junk::.junk::.junk::.junk::.junk::.junk::.junk::.junk::.junk::.junk::.junk::.junk::.junk::.junk::.junk :: []), h⟩) := by
  intro d
  induction d with
  | zero =>
    intro i m h1 h2
    obtain ⟨m, rfl⟩ : ∃ q, m = q + 1 := ⟨m - 1, by omega⟩
    have h3 : ¬ ((i : Int) < ms.length) := by omega
    have q1 : ms.drop i = [] := List.drop_eq_nil_iff.2 (by omega)
    rw [q1]
    simp only [loop_e,EB_r20_Of_1,Zab,Zac,Zad,Zag,Zah,Zaj,Zak,Zal,Zas,Zav,Zay,Zbi,Zbk,Zbq,Zcg,Zcu,Zcw,Zda,Zdb,Zdc,List.set_cons_zero,List.set_cons_succ,List.getD_cons_zero,List.getD_cons_succ,Zdg,Zds,Zeo,decide_false,eq_self,cond_false,h3,List.any_nil]
  | succ d ih =>
    intro i m h1 h2
    obtain ⟨m, rfl⟩ : ∃ q, m = q + 1 := ⟨m - 1, by omega⟩
    have h3 : i < ms.length := by omega
    have h3' : (i : Int) < ms.length := by omega
    have hw' := w64s (n := i) (by omega)
    have q1 : ms.drop i = ms[i] :: ms.drop (i + 1) := List.drop_eq_getElem_cons h3
    have xx := fun h => ix_eIs h false ms .i64 i h3
    rw [q1, List.any_cons]
    by_cases a : ms[i] < 1
    case pos =>
      have b : outB 1 g.rules.length ms[i] = true := by simp [outB, a]
      simp only [loop_e,EB_r20_Of_1,Zaa,Zab,Zac,Zad,Zae,Zag,Zai,Zaj,Zak,Zam,Zao,Zar,Zaw,Zay,Zba,Zbd,Zbg,Zbi,Zbj,Zbk,Zbl,Zbo,Zbp,Zbq,Zcb,Zcg,Zcl,Zcu,Zcv,Zcw,Zcx,Zda,Zdb,Zdc,List.set_cons_zero,List.set_cons_succ,List.getD_cons_zero,List.getD_cons_succ,Option.bind_some,Option.map_some,Zdg,Zds,Zdy,Zea,Zeo,decide_true,List.getElem?_cons_zero,List.length_cons,List.length_nil,if_true,Nat.reduceAdd,Nat.reduceLeDiff,eq_self,and_self,cond_true,aload,acells,getArr,part,eI,astore,putCells,List.all_cons,List.all_nil,cellOk,Bool.and_self,List.drop_zero,List.drop_succ_cons,List.take_succ_cons,List.take_zero,List.take_nil,List.cons_append,List.nil_append,List.set_cons_zero,h3',xx,a,b,evp,afill,fillCells,e1,Bool.true_or]
    case neg =>
    by_cases b' : (g.rules.length : Int) ≤ ms[i]
    case pos =>
      have b : outB 1 g.rules.length ms[i] = true := by simp [outB, b']
      simp only [loop_e,EB_r20_Of_1,Zaa,Zab,Zac,Zad,Zae,Zag,Zai,Zaj,Zak,Zam,Zao,Zar,Zaw,Zay,Zba,Zbc,Zbh,Zbi,Zbj,Zbk,Zbl,Zbo,Zbp,Zbq,Zby,Zcb,Zcg,Zcl,Zcu,Zcv,Zcw,Zcx,Zda,Zdb,Zdc,List.set_cons_zero,List.set_cons_succ,List.getD_cons_zero,List.getD_cons_succ,Option.bind_some,Option.map_some,Zdg,Zdj,Zds,Zdw,Zdy,Zea,Zeo,decide_true,decide_false,List.getElem?_cons_zero,List.length_cons,List.length_nil,if_true,Nat.reduceAdd,Nat.reduceLeDiff,eq_self,and_self,cond_true,List.length_map,aload,acells,getArr,part,eI,astore,putCells,List.all_cons,List.all_nil,cellOk,Bool.and_self,List.drop_zero,List.drop_succ_cons,List.take_succ_cons,List.take_zero,List.take_nil,List.cons_append,List.nil_append,List.set_cons_zero,h3',xx,a,b',b,evp,afill,fillCells,e0,e1,Bool.true_or]
    case neg =>
      have b : outB 1 g.rules.length ms[i] = false := by simp only [outB,Bool.or_eq_false_iff,decide_eq_false_iff_not]; omega
      rw [b, Bool.false_or, ← ih (i + 1) m (by omega) (by omega)]
      simp only [loop_e,EB_r20_Of_1,Zaa,Zab,Zac,Zad,Zae,Zag,Zaj,Zak,Zan,Zar,Zas,Zau,Zay,Zbc,Zbh,Zbi,Zbj,Zbk,Zbl,Zbo,Zbq,Zby,Zcb,Zcg,Zcu,Zcv,Zcw,Zda,Zdb,Zdc,List.set_cons_zero,List.set_cons_succ,List.getD_cons_zero,List.getD_cons_succ,Option.bind_some,Zdd,Zdg,Zdj,Zds,Zdw,Zdy,Zeo,decide_true,decide_false,List.getElem?_cons_zero,List.length_cons,List.length_nil,if_true,Nat.reduceAdd,Nat.reduceLeDiff,eq_self,List.length_map,aload,acells,getArr,part,eI,List.drop_zero,List.drop_succ_cons,List.take_succ_cons,List.take_zero,List.take_nil,List.set_cons_zero,h3',xx,a,b',e0,hw']

/-- All moves, one by one. -/
theorem r_Of_moves {g : GramD} (hg : GramR g) (ms : List Int) (hms : ms.length ≤ 1000000) (rm : ∀ k ∈ ms, 1 ≤ k ∧ k < g.rules.length) (wv : AV) (N : Nat) : ∀ (d m : Nat) (z : Int) (t : T) (c : List AV) (sz : Int) (h : AHeap), z = (d : Int) - 1 → d ≤ ms.length → d < m → Enc t c → (sizeN t : Int) ≤ sz → sz ≤ 65536 →
    h[0]? = some (.arr 0 5 true [eGram g]) → h[1]? = some (.arr 0 3 true [[.int .i64 0, .int .i64 0, .nilS]]) → h[2]? = some (.arr 0 3 true [c]) →
    (errR (rewr g (ms.take d).reverse t sz) = 0 → ∃ c' h', loopN (evalCode (lim G0.cfg) N B_r20_Of_2) m ⟨(.junk :: wv :: .vsl false (eIs ms) :: .ptr 0 0 0 0 :: .junk::.junk :: .ptr 1 0 0 0 :: .junk::.junk::.junk::.junk :: .ptr 2 0 0 0 :: .int .i64 sz :: .int .i64 z :: .junk::.junk::.junk::.junk::.junk::.junk::.junk::.junk::.junk::.junk::.junk::.junk::.junk::.junk::.junk::.junk::.junk::.junk::.junk::.junk::.junk::.junk::.junk::.junk::.junk::.junk::.junk::.junk::.junk::.junk::.junk::.junk::.junk::.junk::.junk::.junk::.junk::.junk::.junk::.junk::.junk::.junk::.junk::.junk::.junk::.junk::.junk::.junk::.junk::.junk::.junk::.junk::.junk::.junk::.junk::.junk::.junk::.junk::.junk::.junk::.junk::.junk::.junk::.junk::.junk::.junk::.junk::.junk::.junk::.junk::.junk::.junk::.junk::.junk::.junk::.junk::.junk::.junk::.junk::.junk::.junk::.junk::.junk::.junk::.junk::.junk::.junk::.junk::.junk::.junk::.junk::.junk::.junk::.junk::.junk::.junk::.junk::.junk::.junk::.junk::.junk::.junk::.junk::.junk::.junk::.junk::.junk::.junk::.junk::.junk::.junk::.junk::.junk::.junk::.junk::.junk::.junk::.junk::.junk::.junk::.junk::.junk::.junk::.junk::.junk::.junk :: []), h⟩ = some (.exit 4, ⟨(.junk :: wv :: .junk::.junk::.junk::.junk :: .ptr 1 0 0 0 :: .junk::.junk::.junk::.junk :: .ptr 2 0 0 0 :: .junk::.junk::.junk::.junk::.junk::.junk::.junk::.junk::.junk::.junk::.junk::.junk::.junk::.junk::.junk::.junk::.junk::.junk::.junk::.junk::.junk::.junk::.junk::.junk::.junk::.junk::.junk::.junk::.junk::.junk::.junk::.junk::.junk::.junk::.junk::.junk::.junk::.junk::.junk::.junk::.junk::.junk::.junk::.junk::.junk::.junk::.junk::.junk::.junk::.junk::.junk::.junk::.junk::.junk::.junk::.junk::.junk::.junk::.junk::.junk::.junk::.junk::.junk::.junk::.junk::.junk::.junk::.junk::.junk::.junk::.junk::.junk::.junk::.junk::.junk::.junk::.junk::.junk::.junk::.junk::.junk::.junk::.junk::.junk::.junk::.junk::.junk::.junk::.junk::.junk::.junk::.junk::.junk::.junk::.junk::.junk::.junk::.junk::.junk::.junk::.junk::.junk::.junk::.junk::.junk::.junk::.junk::.junk::.junk::.junk::.junk::.junk::.junk::.junk::.junk::.junk::.junk::.junk::.junk::.junk::.junk::.junk::.junk::.junk::.junk::.junk::.junk::.junk :: []), h'⟩) ∧ Enc (rewr g (ms.take d).reverse t sz).1.1 c' ∧ (sizeN (rewr g (ms.take d).reverse t sz).1.1 : Int) ≤ 65536 ∧ h'[1]? = some (.arr 0 3 true [[.int .i64 0, .int .i64 0, .nilS]]) ∧ h'[2]? = some (.arr 0 3 true [c'])) ∧
    (errR (rewr g (ms.take d).reverse t sz) ≠ 0 → ∃ h', loopN (evalCode (lim G0.cfg) N B_r20_Of_2) m ⟨(.junk :: wv :: .vsl false (eIs ms) :: .ptr 0 0 0 0 :: .junk::.junk :: .ptr 1 0 0 0 :: .junk::.junk::.junk::.junk :: .ptr 2 0 0 0 :: .int .i64 sz :: .int .i64 z :: .junk::.junk::.junk::.junk::.junk::.junk::.junk::.junk::.junk::.junk::.junk::.junk::.junk::.junk::.junk::.junk::.junk::.junk::.junk::.junk::.junk::.junk::.junk::.junk::.junk::.junk::.junk::.junk::.junk::.junk::.junk::.junk::.junk::.junk::.junk::.junk::.junk::.junk::.junk::.junk::.junk::.junk::.junk::.junk::.junk::.junk::.junk::.junk::.junk::.junk::.junk::.junk::.junk::.junk::.junk::.junk::.junk::.junk::.junk::.junk::.junk::.junk::.junk::.junk::.junk::.junk::.junk::.junk::.junk::.junk::.junk::.junk::.junk::.junk::.junk::.junk::.junk::.junk::.junk::.junk::.junk::.junk::.junk::.junk::.junk::.junk::.junk::.junk::.junk::.junk::.junk::.junk::.junk::.junk::.junk::.junk::.junk::.junk::.junk::.junk::.junk::.junk::.junk::.junk::.junk::.junk::.junk::.junk::.junk::.junk::.junk::.junk::.junk::.junk::.junk::.junk::.junk::.junk::.junk::.junk::.junk::.junk::.junk::.junk::.junk::.junk :: []), h⟩ = some (.ret, ⟨(.junk::.junk::.junk::.junk::.junk::.junk :: .ptr 1 0 0 0 :: .int .i64 (errR (rewr g (ms.take d).reverse t sz)) :: .junk::.junk::.junk::.junk::.junk::.junk::.junk::.junk::.junk::.junk::.junk::.junk::.junk::.junk::.junk::.junk::.junk::.junk::.junk::.junk::.junk::.junk::.junk::.junk::.junk::.junk::.junk::.junk::.junk::.junk::.junk::.junk::.junk::.junk::.junk::.junk::.junk::.junk::.junk::.junk::.junk::.junk::.junk::.junk::.junk::.junk::.junk::.junk::.junk::.junk::.junk::.junk::.junk::.junk::.junk::.junk::.junk::.junk::.junk::.junk::.junk::.junk::.junk::.junk::.junk::.junk::.junk::.junk::.junk::.junk::.junk::.junk::.junk::.junk::.junk::.junk::.junk::.junk::.junk::.junk::.junk::.junk::.junk::.junk::.junk::.junk::.junk::.junk::.junk::.junk::.junk::.junk::.junk::.junk::.junk::.junk::.junk::.junk::.junk::.junk::.junk::.junk::.junk::.junk::.junk::.junk::.junk::.junk::.junk::.junk::.junk::.junk::.junk::.junk::.junk::.junk::.junk::.junk::.junk::.junk::.junk::.junk::.junk::.junk::.junk::.junk::.junk::.junk::.junk::.junk::.junk::.junk :: []), h'⟩) ∧ h'[1]? = some (.arr 0 3 true [[.int .i64 0, .int .i64 0, .nilS]])) := by
  intro d
  induction d with
  | zero =>
    intro m z t c sz h hz h1 h3 hE hs1 hs2 e0 e1 e2
    obtain ⟨m, rfl⟩ : ∃ q, m = q + 1 := ⟨m - 1, by omega⟩
    have h5 : ¬ ((0 : Int) ≤ z) := by omega
    simp only [List.take_zero,List.reverse_nil,rewr]
    refine ⟨fun _ => ⟨c, h, ?_, hE, by omega, e1, e2⟩, fun hn => absurd (by simp [errR]) hn⟩
    simp only [loop_e,EB_r20_Of_2,Zab,Zac,Zad,Zag,Zah,Zaj,Zak,Zal,Zas,Zav,Zay,Zbi,Zbk,Zbq,Zcu,Zcv,Zcw,Zda,Zdb,Zdc,List.set_cons_zero,List.set_cons_succ,List.getD_cons_zero,List.getD_cons_succ,Zdj,decide_false,eq_self,List.set_cons_zero,h5]
  | succ d ih =>
    intro m z t c sz h hz h1 h3 hE hs1 hs2 e0 e1 e2
    obtain ⟨m, rfl⟩ : ∃ q, m = q + 1 := ⟨m - 1, by omega⟩
    have hz' : z = (d : Int) := by omega
    subst hz'
    have h5 : (0 : Int) ≤ d := by omega
    have hd : d < ms.length := by omega
    have hw : IntKind.i64.wrap ((d : Int) - 1) = (d : Int) - 1 := w64 (by omega) (by omega)
    have app : (ms.take (d + 1)).reverse = ms[d] :: (ms.take d).reverse := by rw [List.take_succ_eq_append_getElem hd]; simp
    obtain ⟨m1, m2⟩ := rm ms[d] (List.getElem_mem hd)
    obtain ⟨k, hk⟩ : ∃ k : Nat, ms[d] = (k : Int) := ⟨ms[d].toNat, by omega⟩
    have hkn : ms[d].toNat = k := by omega
    have hkl : k < g.rules.length := by omega
    obtain ⟨rk, hrk⟩ : ∃ rk, g.rules[k]? = some rk := ⟨g.rules[k], List.getElem?_eq_getElem hkl⟩
    have hrg : g.rules[k] = rk := (List.getElem?_eq_some_iff.1 hrk).2
    have hgl := hg.ok.rules
    rw [maxLen_eq] at hgl
    obtain ⟨r1, r2, r3⟩ := hg.rule hrk
    have elo : lenOf g k = rk.right.length := by simp [lenOf, hrk]
    obtain ⟨c', hE', hl⟩ := r_last hg hrk (by omega) t (by omega) c hE
    have hsl := sizeN_last g k t
    rw [elo] at hsl
    have hEc' := hE'
    obtain ⟨kv, rfl, hkv⟩ := hE.kv3
    obtain ⟨k', rfl, hk'⟩ := hE'.kv3
    have xx := fun h => ix_eIs h false ms .i64 d hd
    rw [hk] at xx
    have xr := fun h => ix_map eRule h 5 false g.rules .i64 k hkl rfl
    simp only [hrg] at xr
    have a0 : ∀ l : AHeap, (h ++ l)[0]? = some (.arr 0 5 true [eGram g]) := fun l => get_app e0 l
    have a1 : ∀ l : AHeap, (h ++ l)[1]? = some (.arr 0 3 true [[.int .i64 0, .int .i64 0, .nilS]]) := fun l => get_app e1 l
    have a2 : ∀ l : AHeap, (h ++ l)[2]? = some (.arr 0 3 true [[.int .i64 t.sym, .int .i64 t.rule, kv]]) := fun l => get_app e2 l
    have s1 := fun l => get_set_eq (y := AObj.arr 0 3 true [[.int .i64 0, .int .i64 0, .nilS]]) (a1 l)
    have hws : IntKind.i64.wrap (sz + rk.right.length) = sz + rk.right.length := w64 (by have := sizeN_pos t; omega) (by omega)
    rw [app]
    simp only [rewr,hkn,elo]
    by_cases q0 : (lastT g k t).2 = 0
    case pos =>
      have hlt : (lastT g k t).2 < 2 := by omega
      simp only [if_pos q0]
      refine ⟨fun h0 => by simp [errR] at h0, fun _ => ⟨_, ?_, s1 [.arr 0 3 true [[.int .i64 (lastT g k t).1.sym, .int .i64 (lastT g k t).1.rule, k']]]⟩⟩
      have ee : errR ((t, 0), (ms[d] :: (ms.take d).reverse, sz)) = 3 := by simp [errR]
      rw [ee]
      rcases hk' with rfl | ⟨e9, rows, rfl⟩ <;> simp only [loop_e,EB_r20_Of_2,Zaa,Zab,Zac,Zad,Zae,Zag,Zai,Zaj,Zak,Zam,Zao,Zar,Zaw,Zay,Zaz,Zba,Zbi,Zbk,Zbm,Zbo,Zbp,Zbq,Zcb,Zcf,Zcl,Zco,Zcp,Zcu,Zcv,Zcw,Zcx,Zcy,Zcz,Zda,Zdb,Zdc,List.set_cons_zero,List.set_cons_succ,List.getD_cons_zero,List.getD_cons_succ,Option.bind_some,Option.map_some,Zdg,Zdj,Zdy,Zdz,Zea,Zel,decide_true,List.getElem?_cons_zero,List.getElem?_cons_succ,List.length_cons,List.length_nil,if_true,Nat.reduceAdd,Nat.reduceLeDiff,eq_self,and_self,aload,acells,getArr,part,eI,astore,putCells,get_new,set_new,List.all_cons,List.all_nil,cellOk,Bool.and_self,List.drop_zero,List.drop_succ_cons,List.take_succ_cons,List.take_zero,List.take_nil,List.cons_append,List.nil_append,List.set_cons_zero,h5,e0,e2,a1,xx,hl,hlt,evp,afill,fillCells]
    case neg =>
    by_cases q1 : (lastT g k t).2 = 1
    case pos =>
      have hlt : (lastT g k t).2 < 2 := by omega
      simp only [if_neg q0,if_pos q1]
      refine ⟨fun h0 => by simp [errR] at h0, fun _ => ⟨_, ?_, s1 [.arr 0 3 true [[.int .i64 (lastT g k t).1.sym, .int .i64 (lastT g k t).1.rule, k']]]⟩⟩
      have ee : errR ((t, 3), (ms[d] :: (ms.take d).reverse, sz)) = 3 := by simp [errR]
      rw [ee]
      rcases hk' with rfl | ⟨e9, rows, rfl⟩ <;> simp only [loop_e,EB_r20_Of_2,Zaa,Zab,Zac,Zad,Zae,Zag,Zai,Zaj,Zak,Zam,Zao,Zar,Zaw,Zay,Zaz,Zba,Zbi,Zbk,Zbm,Zbo,Zbp,Zbq,Zcb,Zcf,Zcl,Zco,Zcp,Zcu,Zcv,Zcw,Zcx,Zcy,Zcz,Zda,Zdb,Zdc,List.set_cons_zero,List.set_cons_succ,List.getD_cons_zero,List.getD_cons_succ,Option.bind_some,Option.map_some,Zdg,Zdj,Zdy,Zdz,Zea,Zel,decide_true,List.getElem?_cons_zero,List.getElem?_cons_succ,List.length_cons,List.length_nil,if_true,Nat.reduceAdd,Nat.reduceLeDiff,eq_self,and_self,aload,acells,getArr,part,eI,astore,putCells,get_new,set_new,List.all_cons,List.all_nil,cellOk,Bool.and_self,List.drop_zero,List.drop_succ_cons,List.take_succ_cons,List.take_zero,List.take_nil,List.cons_append,List.nil_append,List.set_cons_zero,h5,e0,e2,a1,xx,hl,hlt,evp,afill,fillCells]
    case neg =>
    have hlt : ¬ (lastT g k t).2 < 2 := by
      rcases lastT_range g k t with h | h | h <;> omega
    by_cases q2 : 65536 < sz + (rk.right.length : Int)
    case pos =>
      simp only [if_neg q0,if_neg q1,if_pos q2]
      refine ⟨fun h0 => by simp [errR] at h0, fun _ => ⟨_, ?_, s1 [.arr 0 3 true [[.int .i64 (lastT g k t).1.sym, .int .i64 (lastT g k t).1.rule, k']]]⟩⟩
      have ee : errR ((t, 4), (ms[d] :: (ms.take d).reverse, sz)) = 4 := by simp [errR]
      rw [ee]
      rcases hk' with rfl | ⟨e9, rows, rfl⟩ <;> simp only [loop_e,EB_r20_Of_2,Zaa,Zab,Zac,Zad,Zae,Zag,Zai,Zaj,Zak,Zam,Zao,Zar,Zas,Zaw,Zay,Zaz,Zba,Zbi,Zbk,Zbm,Zbo,Zbp,Zbq,Zby,Zcb,Zcf,Zcg,Zcl,Zco,Zcp,Zcu,Zcv,Zcw,Zcx,Zcy,Zcz,Zda,Zdb,Zdc,List.set_cons_zero,List.set_cons_succ,List.getD_cons_zero,List.getD_cons_succ,Option.bind_some,Option.map_some,Zdd,Zdg,Zdi,Zdj,Zds,Zdw,Zdx,Zdy,Zdz,Zea,Zel,Zeo,decide_true,decide_false,List.getElem?_cons_zero,List.getElem?_cons_succ,List.length_cons,List.length_nil,if_true,Nat.reduceAdd,Nat.reduceLeDiff,eq_self,and_self,aload,acells,getArr,part,eI,astore,putCells,get_new,set_new,List.all_cons,List.all_nil,cellOk,Bool.and_self,List.drop_zero,List.drop_succ_cons,List.take_succ_cons,List.take_zero,List.take_nil,List.cons_append,List.nil_append,List.set_cons_zero,h5,e0,e2,a0,a1,xx,xr,hl,hlt,hws,q2,evp,afill,fillCells]
    case neg =>
      simp only [if_neg q0,if_neg q1,if_neg q2]
      obtain ⟨A, B⟩ := ih m ((d : Int) - 1) (lastT g k t).1 _ (sz + rk.right.length) ((h ++ [AObj.arr 0 3 true [[.int .i64 (lastT g k t).1.sym, .int .i64 (lastT g k t).1.rule, k']]]).set 2 (.arr 0 3 true [[.int .i64 (lastT g k t).1.sym, .int .i64 (lastT g k t).1.rule, k']])) rfl (by omega) (by omega) hEc' (by omega) (by omega) (get_set_ne (y := (AObj.arr 0 3 true [[.int .i64 (lastT g k t).1.sym, .int .i64 (lastT g k t).1.rule, k']])) (a0 [(AObj.arr 0 3 true [[.int .i64 (lastT g k t).1.sym, .int .i64 (lastT g k t).1.rule, k']])]) (by omega)) (get_set_ne (y := (AObj.arr 0 3 true [[.int .i64 (lastT g k t).1.sym, .int .i64 (lastT g k t).1.rule, k']])) (a1 [(AObj.arr 0 3 true [[.int .i64 (lastT g k t).1.sym, .int .i64 (lastT g k t).1.rule, k']])]) (by omega)) (get_set_eq (y := (AObj.arr 0 3 true [[.int .i64 (lastT g k t).1.sym, .int .i64 (lastT g k t).1.rule, k']])) (a2 [(AObj.arr 0 3 true [[.int .i64 (lastT g k t).1.sym, .int .i64 (lastT g k t).1.rule, k']])]))
      have step : loopN (evalCode (lim G0.cfg) N B_r20_Of_2) (m + 1) ⟨(.junk :: wv :: .vsl false (eIs ms) :: .ptr 0 0 0 0 :: .junk::.junk :: .ptr 1 0 0 0 :: .junk::.junk::.junk::.junk :: .ptr 2 0 0 0 :: .int .i64 sz :: .int .i64 d :: .junk::.junk::.junk::.junk::.junk::.junk::.junk::.junk::.junk::.junk::.junk::.junk::.junk::.junk::.junk::.junk::.junk::.junk::.junk::.junk::.junk::.junk::.junk::.junk::.junk::.junk::.junk::.junk::.junk::.junk::.junk::.junk::.junk::.junk::.junk::.junk::.junk::.junk::.junk::.junk::.junk::.junk::.junk::.junk::.junk::.junk::.junk::.junk::.junk::.junk::.junk::.junk::.junk::.junk::.junk::.junk::.junk::.junk::.junk::.junk::.junk::.junk::.junk::.junk::.junk::.junk::.junk::.junk::.junk::.junk::.junk::.junk::.junk::.junk::.junk::.junk::.junk::.junk::.junk::.junk::.junk::.junk::.junk::.junk::.junk::.junk::.junk::.junk::.junk::.junk::.junk::.junk::.junk::.junk::.junk::.junk::.junk::.junk::.junk::.junk::.junk::.junk::.junk::.junk::.junk::.junk::.junk::.junk::.junk::.junk::.junk::.junk::.junk::.junk::.junk::.junk::.junk::.junk::.junk::.junk::.junk::.junk::.junk::.junk::.junk::.junk :: []), h⟩ = loopN (evalCode (lim G0.cfg) N B_r20_Of_2) m ⟨(.junk :: wv :: .vsl false (eIs ms) :: .ptr 0 0 0 0 :: .junk::.junk :: .ptr 1 0 0 0 :: .junk::.junk::.junk::.junk :: .ptr 2 0 0 0 :: .int .i64 (sz + rk.right.length) :: .int .i64 ((d : Int) - 1) :: .junk::.junk::.junk::.junk::.junk::.junk::.junk::.junk::.junk::.junk::.junk::.junk::.junk::.junk::.junk::.junk::.junk::.junk::.junk::.junk::.junk::.junk::.junk::.junk::.junk::.junk::.junk::.junk::.junk::.junk::.junk::.junk::.junk::.junk::.junk::.junk::.junk::.junk::.junk::.junk::.junk::.junk::.junk::.junk::.junk::.junk::.junk::.junk::.junk::.junk::.junk::.junk::.junk::.junk::.junk::.junk::.junk::.junk::.junk::.junk::.junk::.junk::.junk::.junk::.junk::.junk::.junk::.junk::.junk::.junk::.junk::.junk::.junk::.junk::.junk::.junk::.junk::.junk::.junk::.junk::.junk::.junk::.junk::.junk::.junk::.junk::.junk::.junk::.junk::.junk::.junk::.junk::.junk::.junk::.junk::.junk::.junk::.junk::.junk::.junk::.junk::.junk::.junk::.junk::.junk::.junk::.junk::.junk::.junk::.junk::.junk::.junk::.junk::.junk::.junk::.junk::.junk::.junk::.junk::.junk::.junk::.junk::.junk::.junk::.junk::.junk :: []), ((h ++ [AObj.arr 0 3 true [[.int .i64 (lastT g k t).1.sym, .int .i64 (lastT g k t).1.rule, k']]]).set 2 (.arr 0 3 true [[.int .i64 (lastT g k t).1.sym, .int .i64 (lastT g k t).1.rule, k']]))⟩ := by
        rcases hk' with rfl | ⟨e9, rows, rfl⟩ <;> simp only [loop_e,EB_r20_Of_2,Zaa,Zab,Zac,Zad,Zae,Zag,Zaj,Zak,Zan,Zar,Zas,Zau,Zay,Zaz,Zba,Zbi,Zbk,Zbm,Zbo,Zbp,Zbq,Zby,Zcb,Zcf,Zcg,Zco,Zcp,Zcu,Zcv,Zcw,Zcx,Zcy,Zcz,Zda,Zdb,Zdc,List.set_cons_zero,List.set_cons_succ,List.getD_cons_zero,List.getD_cons_succ,Option.bind_some,Zdd,Zde,Zdg,Zdi,Zdj,Zds,Zdw,Zdx,Zdy,Zdz,Zea,Zel,Zeo,decide_true,decide_false,List.getElem?_cons_zero,List.getElem?_cons_succ,List.length_cons,List.length_nil,if_true,Nat.reduceAdd,Nat.reduceLeDiff,eq_self,and_self,aload,acells,getArr,part,eI,astore,putCells,get_new,set_new,List.all_cons,List.all_nil,cellOk,Bool.and_self,List.drop_zero,List.drop_succ_cons,List.take_succ_cons,List.take_zero,List.take_nil,List.cons_append,List.nil_append,List.set_cons_zero,h5,e0,e2,a0,a2,xx,xr,hl,hlt,hws,q2,hw]
      rw [step]
      exact ⟨A, B⟩
end Go.Proofs.Ytkimloceaihplaa.Ai
namespace Go.Proofs.Ytkimloceaihplaa.Ai
open Go Go.Proofs
set_option linter.unusedVariables false
set_option linter.unusedSimpArgs false
set_option maxRecDepth 10000
set_option maxHeartbeats 4000000

theorem r_Of_cmp (ys ws : List Int) (hl : ys.length = ws.length) (hw : ws.length ≤ 1000000) (N : Nat) (h : AHeap) (e1 : h[1]? = some (.arr 0 3 true [[.int .i64 0, .int .i64 0, .nilS]])) : ∀ (d i m : Nat), ws.length = i + d → d < m →
    loopN (evalCode (lim G0.cfg) N B_r20_Of_3) m ⟨(.junk :: .vsl false (eIs ws) :: .junk::.junk::.junk::.junk :: .ptr 1 0 0 0 :: .junk::.junk::.junk::.junk :: .ptr 2 0 0 0 :: .junk::.junk::.junk::.junk :: encL ys :: .int .i64 i :: .junk::.junk::.junk::.junk::.junk::.junk::.junk::.junk::.junk::.junk::.junk::.junk::.junk::.junk::.junk::.junk::.junk::.junk::.junk::.junk::.junk::.junk::.junk::.junk::.junk::.junk::.junk::.junk::.junk::.junk::.junk::.junk::.junk::.junk::.junk::.junk::.junk::.junk::.junk::.junk::.junk::.junk::.junk::.junk::.junk::.junk::.junk::.junk::.junk::.junk::.junk::.junk::.junk::.junk::.junk::.junk::.junk::.junk::.junk::.junk::.junk::.junk::.junk::.junk::.junk::.junk::.junk::.junk::.junk::.junk::.junk::.junk::.junk::.junk::.junk::.junk::.junk::.junk::.junk::.junk::.junk::.junk::.junk::.junk::.junk::.junk::.junk::.junk::.junk::.junk::.junk::.junk::.junk::.junk::.junk::.junk::.junk::.junk::.junk::.junk::.junk::.junk::.junk::.junk::.junk::.junk::.junk::.junk::.junk::.junk::.junk::.junk::.junk::.junk::.junk::.junk::.junk::.junk::.junk::.junk::.junk::.junk :: []), h⟩ = bif decide (ys.drop i = ws.drop i) then some (.exit 6, ⟨(.junk::.junk::.junk::.junk::.junk::.junk :: .ptr 1 0 0 0 :: .junk::.junk::.junk::.junk :: .ptr 2 0 0 0 :: .junk::.junk::.junk::.junk::.junk::.junk::.junk::.junk::.junk::.junk::.junk::.junk::.junk::.junk::.junk::.junk::.junk::.junk::.junk::.junk::.junk::.junk::.junk::.junk::.junk::.junk::.junk::.junk::.junk::.junk::.junk::.junk::.junk::.junk::.junk::.junk::.junk::.junk::.junk::.junk::.junk::.junk::.junk::.junk::.junk::.junk::.junk::.junk::.junk::.junk::.junk::.junk::.junk::.junk::.junk::.junk::.junk::.junk::.junk::.junk::.junk::.junk::.junk::.junk::.junk::.junk::.junk::.junk::.junk::.junk::.junk::.junk::.junk::.junk::.junk::.junk::.junk::.junk::.junk::.junk::.junk::.junk::.junk::.junk::.junk::.junk::.junk::.junk::.junk::.junk::.junk::.junk::.junk::.junk::.junk::.junk::.junk::.junk::.junk::.junk::.junk::.junk::.junk::.junk::.junk::.junk::.junk::.junk::.junk::.junk::.junk::.junk::.junk::.junk::.junk::.junk::.junk::.junk::.junk::.junk::.junk::.junk::.junk::.junk::.junk::.junk::.junk::.junk :: []), h⟩) else some (.ret, ⟨(.junk::.junk::.junk::.junk::.junk::.junk :: .ptr 1 0 0 0 :: .int .i64 9 :: .junk::.junk::.junk::.junk::.junk::.junk::.junk::.junk::.junk::.junk::.junk::.junk::.junk::.junk::.junk::.junk::.junk::.junk::.junk::.junk::.junk::.junk::.junk::.junk::.junk::.junk::.junk::.junk::.junk::.junk::.junk::.junk::.junk::.junk::.junk::.junk::.junk::.junk::.junk::.junk::.junk::.junk::.junk::.junk::.junk::.junk::.junk::.junk::.junk::.junk::.junk::.junk::.junk::.junk::.junk::.junk::.junk::.junk::.junk::.junk::.junk::.junk::.junk::.junk::.junk::.junk::.junk::.junk::.junk::.junk::.junk::.junk::.junk::.junk::.junk::.junk::.junk::.junk::.junk::.junk::.junk::.junk::.junk::.junk::.junk::.junk::.junk::.junk::.junk::.junk::.junk::.junk::.junk::.junk::.junk::.junk::.junk::.junk::.junk::.junk::.junk::.junk::.junk::.junk::.junk::.junk::.junk::.junk::.junk::.junk::.junk::.junk::.junk::.junk::.junk::.junk::.junk::.junk::.junk::.junk::.junk::.junk::.junk::.junk::.junk::.junk::.junk::.junk::.junk::.junk::.junk::.junk :: []), h.set 1 (.arr 0 3 true [[.int .i64 0, .int .i64 0, .nilS]])⟩) := by
  have ll := fun h => len_encL h ys
  intro d
  induction d with
  | zero =>
    intro i m h1 h2
    obtain ⟨m, rfl⟩ : ∃ q, m = q + 1 := ⟨m - 1, by omega⟩
    have h3 : ¬ ((i : Int) < ys.length) := by omega
    have q1 : ws.drop i = [] := List.drop_eq_nil_iff.2 (by omega)
    have q2 : ys.drop i = [] := List.drop_eq_nil_iff.2 (by omega)
    rw [q1, q2]
    simp only [loop_e,EB_r20_Of_3,Zab,Zac,Zad,Zag,Zah,Zaj,Zak,Zal,Zas,Zav,Zay,Zbi,Zbk,Zbq,Zcg,Zcu,Zcw,Zda,Zdb,Zdc,List.set_cons_zero,List.set_cons_succ,List.getD_cons_zero,List.getD_cons_succ,Zdg,decide_true,decide_false,eq_self,cond_true,ll,h3]
  | succ d ih =>
    intro i m h1 h2
    obtain ⟨m, rfl⟩ : ∃ q, m = q + 1 := ⟨m - 1, by omega⟩
    have h3 : i < ws.length := by omega
    have h4 : i < ys.length := by omega
    have h3' : (i : Int) < ys.length := by omega
    have hw' := w64s (n := i) (by omega)
    have q1 : ws.drop i = ws[i] :: ws.drop (i + 1) := List.drop_eq_getElem_cons h3
    have q2 : ys.drop i = ys[i] :: ys.drop (i + 1) := List.drop_eq_getElem_cons h4
    have xx := fun h => ix_eIs h false ws .i64 i h3
    have xy := fun h => ix_encL h ys .i64 i h4
    rw [q1, q2]
    by_cases a : ys[i] = ws[i]
    case pos =>
      have b : decide (ys[i] :: ys.drop (i + 1) = ws[i] :: ws.drop (i + 1)) = decide (ys.drop (i + 1) = ws.drop (i + 1)) := by rw [decide_eq_decide, a, List.cons.injEq]; simp only [true_and]
      have a' : decide (ys[i] = ws[i]) = true := decide_eq_true a
      rw [b, ← ih (i + 1) m (by omega) (by omega)]
      simp only [loop_e,EB_r20_Of_3,Zaa,Zab,Zac,Zad,Zae,Zag,Zaj,Zak,Zan,Zar,Zas,Zau,Zay,Zbi,Zbk,Zbo,Zbq,Zcb,Zcg,Zcu,Zcv,Zcw,Zda,Zdb,Zdc,List.set_cons_zero,List.set_cons_succ,List.getD_cons_zero,List.getD_cons_succ,Option.bind_some,Zdd,Zdg,Zdl,Zdy,decide_true,Bool.not_true,List.length_cons,List.length_nil,if_true,Nat.reduceAdd,Nat.reduceLeDiff,eq_self,aload,acells,part,eI,List.drop_zero,List.take_succ_cons,List.take_nil,List.set_cons_zero,ll,h3',xx,xy,a',hw']
    case neg =>
      have b : decide (ys[i] :: ys.drop (i + 1) = ws[i] :: ws.drop (i + 1)) = false := decide_eq_false fun h => a (List.cons.inj h).1
      have a' : decide (ys[i] = ws[i]) = false := decide_eq_false a
      rw [b]
      simp only [loop_e,EB_r20_Of_3,Zaa,Zab,Zac,Zad,Zae,Zag,Zai,Zaj,Zak,Zam,Zao,Zar,Zaw,Zay,Zba,Zbi,Zbk,Zbo,Zbp,Zbq,Zcb,Zcg,Zcl,Zcu,Zcv,Zcw,Zcx,Zda,Zdb,Zdc,List.set_cons_zero,List.set_cons_succ,List.getD_cons_zero,List.getD_cons_succ,Option.bind_some,Option.map_some,Zdg,Zdl,Zdy,Zea,decide_true,Bool.not_false,List.getElem?_cons_zero,List.length_cons,List.length_nil,if_true,Nat.reduceAdd,Nat.reduceLeDiff,eq_self,and_self,cond_false,aload,acells,getArr,part,eI,astore,putCells,List.all_cons,List.all_nil,cellOk,Bool.and_self,List.drop_zero,List.drop_succ_cons,List.take_succ_cons,List.take_zero,List.take_nil,List.cons_append,List.nil_append,List.set_cons_zero,ll,h3',xx,xy,a',evp,afill,fillCells,e1]

theorem r_Of {g : GramD} (hg : g.Ok) {ws ms : List Int} (hw : ws.length ≤ 1000) (hm : ms.length ≤ 1000) : ∃ c, Enc (ofD g ws ms).1 c ∧ ∀ H, lim G0.cfg (.func 26) [.agg (eGram g), .vsl false (eIs ws), .vsl false (eIs ms)] H = some (.tup [.agg c, .int .i64 (ofD g ws ms).2], H) := by
  have c1 := r_Right g hg
  obtain ⟨N, hN⟩ : ∃ N, N = ws.length + ms.length + 1 := ⟨_, rfl⟩
  have fa : ∀ h, mapO (freeze h 1000) [.agg (eGram g), .vsl false (eIs ws), .vsl false (eIs ms)] = some ([.agg (eGram g), .vsl false (eIs ws), .vsl false (eIs ms)].map fun x => (x, true)) := fun h => fz_3 (fz_gram g h) (fz_vsl _ _ _) (fz_vsl _ _ _)
  unfold ofD
  by_cases h0 : gramErr g = 0
  case neg =>
    rw [if_pos h0]
    refine ⟨_, zero_tree, fun H => lim_flat rfl rfl P_r20_Of N fa ?_ (fun _ => rfl) H⟩
    rw [R_r20_Of]
    simp only [Zab,Zac,Zad,Zai,Zaj,Zak,Zam,Zar,Zay,Zaz,Zba,Zbi,Zbk,Zbm,Zbn,Zbo,Zbp,Zbq,Zcl,Zco,Zcp,Zcr,Zct,Zcu,Zcv,Zcw,Zcx,Zcy,Zcz,List.set_cons_zero,List.set_cons_succ,List.getD_cons_zero,List.getD_cons_succ,Option.bind_some,Option.map_some,Zdl,Zdz,Zea,decide_false,Bool.not_false,List.getElem?_cons_zero,List.getElem?_cons_succ,List.length_cons,List.length_nil,if_true,Nat.reduceAdd,Nat.reduceSub,Nat.reduceLeDiff,eq_self,and_self,true_and,List.length_cons,List.length_nil,List.replicate_succ,List.replicate_zero,List.cons_append,List.nil_append,aload,acells,getArr,part,astore,putCells,List.all_cons,List.all_nil,cellOk,Bool.and_self,List.drop_zero,List.drop_succ_cons,List.take_succ_cons,List.take_zero,List.take_nil,List.cons_append,List.nil_append,List.set_cons_zero,c1,h0,evp,afill,fillCells,resAll,resVals,resVal,Option.some.injEq,Prod.mk.injEq,true_and,exists_eq']
  case pos =>
  rw [if_neg (fun h => h h0)]
  rw [h0] at c1
  have s0 := r_Of_scan0 hg ws (by omega) (.vsl false (eIs ms)) N [.arr 0 5 true [eGram g], .arr 0 3 true [[.int .i64 0, .int .i64 0, .nilS]]] rfl rfl ws.length 0 N (by omega) (by omega)
  rw [List.drop_zero, z0] at s0
  cases q1 : ws.any (outB 0 g.terms.length)
  case true =>
    rw [if_pos rfl]
    rw [q1, cond_true] at s0
    refine ⟨_, zero_tree, fun H => lim_flat rfl rfl P_r20_Of N fa ?_ (fun _ => rfl) H⟩
    rw [R_r20_Of]
    simp only [Zaa,Zab,Zac,Zad,Zae,Zaf,Zag,Zaj,Zak,Zam,Zao,Zas,Zat,Zay,Zaz,Zbi,Zbk,Zbm,Zbn,Zbo,Zbq,Zco,Zcp,Zcr,Zct,Zcu,Zcv,Zcw,Zcy,Zcz,Zda,Zdb,Zdc,List.set_cons_zero,List.set_cons_succ,List.getD_cons_zero,List.getD_cons_succ,Option.bind_some,Option.map_some,Zdl,Zdz,Zea,decide_true,Bool.not_true,List.getElem?_cons_zero,List.getElem?_cons_succ,List.length_cons,List.length_nil,if_true,Nat.reduceAdd,Nat.reduceSub,Nat.reduceLeDiff,eq_self,true_and,List.length_cons,List.length_nil,List.replicate_succ,List.replicate_zero,List.cons_append,List.nil_append,aload,acells,getArr,part,List.drop_zero,List.take_succ_cons,List.take_nil,List.cons_append,List.nil_append,List.set_cons_zero,c1,s0,resAll,resVals,resVal,Option.some.injEq,Prod.mk.injEq,true_and,exists_eq']
  case false =>
  rw [if_neg (by decide)]
  rw [q1, cond_false] at s0
  have s1 := r_Of_scan1 hg ms (by omega) (.vsl false (eIs ws)) N [.arr 0 5 true [eGram g], .arr 0 3 true [[.int .i64 0, .int .i64 0, .nilS]]] rfl rfl ms.length 0 N (by omega) (by omega)
  rw [List.drop_zero, z0] at s1
  cases q2 : ms.any (outB 1 g.rules.length)
  case true =>
    rw [if_pos rfl]
    rw [q2, cond_true] at s1
    refine ⟨_, zero_tree, fun H => lim_flat rfl rfl P_r20_Of N fa ?_ (fun _ => rfl) H⟩
    rw [R_r20_Of]
    simp only [Zaa,Zab,Zac,Zad,Zae,Zaf,Zag,Zaj,Zak,Zam,Zao,Zap,Zas,Zat,Zay,Zaz,Zbi,Zbk,Zbm,Zbn,Zbo,Zbq,Zco,Zcp,Zcr,Zct,Zcu,Zcv,Zcw,Zcy,Zcz,Zda,Zdb,Zdc,List.set_cons_zero,List.set_cons_succ,List.getD_cons_zero,List.getD_cons_succ,Option.bind_some,Option.map_some,Zdl,Zdz,Zea,decide_true,Bool.not_true,List.getElem?_cons_zero,List.getElem?_cons_succ,List.length_cons,List.length_nil,if_true,Nat.reduceAdd,Nat.reduceSub,Nat.reduceLeDiff,eq_self,true_and,List.length_cons,List.length_nil,List.replicate_succ,List.replicate_zero,List.cons_append,List.nil_append,aload,acells,getArr,part,List.drop_zero,List.take_succ_cons,List.take_nil,List.cons_append,List.nil_append,List.set_cons_zero,c1,s0,s1,resAll,resVals,resVal,Option.some.injEq,Prod.mk.injEq,true_and,exists_eq']
  case false =>
  rw [if_neg (by decide)]
  rw [q2, cond_false] at s1
  have gd : GramR g := ⟨hg, good_of h0⟩
  obtain ⟨x0, x1, hx0, _, hx1, _⟩ := gd.good.zero
  obtain ⟨c0, hc0, cb⟩ := r_by gd hx0 (by omega)
  rw [z0] at cb
  have hs0 : (sizeN (byT g 0) : Int) = 2 := by rw [sizeN_byT]; simp [lenOf, hx0, hx1]
  have rm : ∀ k ∈ ms, 1 ≤ k ∧ k < g.rules.length := fun k hk => by
    have := List.any_eq_false.1 q2 k hk
    simp only [outB,Bool.or_eq_true,decide_eq_true_eq] at this
    omega
  have lw' : ¬ ((65536 : Int) < ws.length) := by omega
  have lm' : ¬ ((65536 : Int) < ms.length) := by omega
  have hwm : IntKind.i64.wrap ((ms.length : Int) - 1) = (ms.length : Int) - 1 := w64 (by omega) (by omega)
  obtain ⟨A, B⟩ := r_Of_moves gd ms (by omega) rm (.vsl false (eIs ws)) N ms.length N ((ms.length : Int) - 1) (byT g 0) c0 2 [.arr 0 5 true [eGram g], .arr 0 3 true [[.int .i64 0, .int .i64 0, .nilS]], .arr 0 3 true [c0]] rfl (Nat.le_refl _) (by omega) hc0 (by omega) (by omega) rfl rfl rfl
  rw [List.take_length] at A B
  generalize rewr g ms.reverse (byT g 0) 2 = R at *
  obtain ⟨kv0, rfl, hkv0⟩ := hc0.kv3
  by_cases q3 : errR R = 0
  case neg =>
    rw [if_pos q3]
    obtain ⟨h', e, g1⟩ := B q3
    refine ⟨_, zero_tree, fun H => lim_flat rfl rfl P_r20_Of N fa ?_ (fun _ => rfl) H⟩
    rw [R_r20_Of]
    rcases hkv0 with rfl | ⟨e9, rows, rfl⟩ <;> simp only [Zaa,Zab,Zac,Zad,Zae,Zaf,Zag,Zaj,Zak,Zam,Zao,Zap,Zas,Zat,Zay,Zaz,Zba,Zbc,Zbh,Zbi,Zbj,Zbk,Zbl,Zbm,Zbn,Zbo,Zbp,Zbq,Zcg,Zco,Zcp,Zcr,Zct,Zcu,Zcv,Zcw,Zcx,Zcy,Zcz,Zda,Zdb,Zdc,List.set_cons_zero,List.set_cons_succ,List.getD_cons_zero,List.getD_cons_succ,Option.bind_some,Option.map_some,Zde,Zdi,Zdl,Zds,Zdz,Zea,Zeo,decide_true,decide_false,Bool.not_true,List.getElem?_cons_zero,List.getElem?_cons_succ,List.length_cons,List.length_nil,if_true,Nat.reduceAdd,Nat.reduceSub,Nat.reduceLeDiff,eq_self,and_self,true_and,List.length_cons,List.length_nil,List.replicate_succ,List.replicate_zero,List.cons_append,List.nil_append,aload,acells,getArr,part,astore,putCells,List.all_cons,List.all_nil,cellOk,Bool.and_self,List.drop_zero,List.drop_succ_cons,List.take_succ_cons,List.take_zero,List.take_nil,List.cons_append,List.nil_append,List.set_cons_zero,c1,s0,s1,lw',lm',cb,hwm,e,g1,resAll,resVals,resVal,Option.some.injEq,Prod.mk.injEq,true_and,exists_eq']
  case pos =>
  rw [if_neg (fun h => h q3)]
  obtain ⟨c', h', e, hE, hsz, g1, g2⟩ := A q3
  have cy := r_YieldE R.1.1 (by omega) c' hE
  have hyl := yieldT_len R.1.1
  have ll := fun h => len_encL h (yieldT R.1.1)
  have g1' := fun y => get_set_eq (y := y) g1
  have hE' := hE
  obtain ⟨kv, rfl, hkv⟩ := hE.kv3
  by_cases q4 : ((yieldT R.1.1).length : Int) = ws.length
  case neg =>
    have ne : yieldT R.1.1 ≠ ws := fun e => q4 (by rw [e])
    rw [if_neg ne]
    refine ⟨_, zero_tree, fun H => lim_flat rfl rfl P_r20_Of N fa ?_ (fun _ => rfl) H⟩
    rw [R_r20_Of]
    rcases hkv0 with rfl | ⟨e9, rows, rfl⟩ <;> simp only [Zaa,Zab,Zac,Zad,Zae,Zaf,Zag,Zai,Zaj,Zak,Zam,Zap,Zar,Zas,Zat,Zay,Zaz,Zba,Zbc,Zbh,Zbi,Zbj,Zbk,Zbl,Zbm,Zbn,Zbo,Zbp,Zbq,Zcg,Zcl,Zco,Zcp,Zcr,Zct,Zcu,Zcv,Zcw,Zcx,Zcy,Zcz,Zda,Zdb,Zdc,List.set_cons_zero,List.set_cons_succ,List.getD_cons_zero,List.getD_cons_succ,Option.bind_some,Option.map_some,Zde,Zdi,Zdl,Zds,Zdz,Zea,Zeo,decide_true,decide_false,Bool.not_true,Bool.not_false,List.getElem?_cons_zero,List.getElem?_cons_succ,List.length_cons,List.length_nil,if_true,Nat.reduceAdd,Nat.reduceSub,Nat.reduceLeDiff,eq_self,and_self,true_and,List.length_cons,List.length_nil,List.replicate_succ,List.replicate_zero,List.cons_append,List.nil_append,aload,acells,getArr,part,astore,putCells,List.all_cons,List.all_nil,cellOk,Bool.and_self,List.drop_zero,List.drop_succ_cons,List.take_succ_cons,List.take_zero,List.take_nil,List.cons_append,List.nil_append,List.set_cons_zero,c1,s0,s1,lw',lm',cb,hwm,e,g1,g2,cy,ll,q4,evp,afill,fillCells,g1',resAll,resVals,resVal,Option.some.injEq,Prod.mk.injEq,true_and,exists_eq']
  case pos =>
  have q4' : decide (((yieldT R.1.1).length : Int) = ws.length) = true := decide_eq_true q4
  have s3 := r_Of_cmp (yieldT R.1.1) ws (by omega) (by omega) N h' g1 ws.length 0 N (by omega) (by omega)
  rw [List.drop_zero, List.drop_zero, z0] at s3
  by_cases q5 : yieldT R.1.1 = ws
  case neg =>
    rw [if_neg q5]
    rw [decide_eq_false q5, cond_false] at s3
    refine ⟨_, zero_tree, fun H => lim_flat rfl rfl P_r20_Of N fa ?_ (fun _ => rfl) H⟩
    rw [R_r20_Of]
    rcases hkv0 with rfl | ⟨e9, rows, rfl⟩ <;> simp only [Zaa,Zab,Zac,Zad,Zae,Zaf,Zag,Zaj,Zak,Zam,Zao,Zap,Zas,Zat,Zay,Zaz,Zba,Zbc,Zbh,Zbi,Zbj,Zbk,Zbl,Zbm,Zbn,Zbo,Zbp,Zbq,Zcg,Zco,Zcp,Zcr,Zct,Zcu,Zcv,Zcw,Zcx,Zcy,Zcz,Zda,Zdb,Zdc,List.set_cons_zero,List.set_cons_succ,List.getD_cons_zero,List.getD_cons_succ,Option.bind_some,Option.map_some,Zde,Zdi,Zdl,Zds,Zdz,Zea,Zeo,decide_true,decide_false,Bool.not_true,List.getElem?_cons_zero,List.getElem?_cons_succ,List.length_cons,List.length_nil,if_true,Nat.reduceAdd,Nat.reduceSub,Nat.reduceLeDiff,eq_self,and_self,true_and,List.length_cons,List.length_nil,List.replicate_succ,List.replicate_zero,List.cons_append,List.nil_append,aload,acells,getArr,part,astore,putCells,List.all_cons,List.all_nil,cellOk,Bool.and_self,List.drop_zero,List.drop_succ_cons,List.take_succ_cons,List.take_zero,List.take_nil,List.cons_append,List.nil_append,List.set_cons_zero,c1,s0,s1,lw',lm',cb,hwm,e,g2,cy,ll,q4',s3,g1',resAll,resVals,resVal,Option.some.injEq,Prod.mk.injEq,true_and,exists_eq']
  case pos =>
    rw [if_pos q5]
    rw [decide_eq_true q5, cond_true] at s3
    refine ⟨_, hE', fun H => ?_⟩
    rcases hkv0 with rfl | ⟨e9, rows, rfl⟩ <;> rcases hkv with rfl | ⟨e8, rows8, rfl⟩
    all_goals
      refine lim_flat rfl rfl P_r20_Of N fa ?_ (fun _ => rfl) H
      rw [R_r20_Of]
      simp only [Zaa,Zab,Zac,Zad,Zae,Zaf,Zag,Zai,Zaj,Zak,Zap,Zas,Zat,Zay,Zaz,Zba,Zbc,Zbh,Zbi,Zbj,Zbk,Zbl,Zbm,Zbn,Zbo,Zbp,Zbq,Zcg,Zco,Zcp,Zcr,Zct,Zcu,Zcv,Zcw,Zcx,Zcy,Zcz,Zda,Zdb,Zdc,List.set_cons_zero,List.set_cons_succ,List.getD_cons_zero,List.getD_cons_succ,Option.bind_some,Option.map_some,Zde,Zdi,Zdl,Zds,Zdz,Zea,Zeo,decide_true,decide_false,Bool.not_true,List.getElem?_cons_zero,List.getElem?_cons_succ,List.length_cons,List.length_nil,if_true,Nat.reduceAdd,Nat.reduceSub,Nat.reduceLeDiff,eq_self,and_self,true_and,List.length_cons,List.length_nil,List.replicate_succ,List.replicate_zero,List.cons_append,List.nil_append,aload,acells,getArr,part,astore,putCells,List.all_cons,List.all_nil,cellOk,Bool.and_self,List.drop_zero,List.drop_succ_cons,List.take_succ_cons,List.take_zero,List.take_nil,List.cons_append,List.nil_append,List.set_cons_zero,c1,s0,s1,lw',lm',cb,hwm,e,g1,g2,cy,ll,q4',s3,g1',resAll,resVals,resVal,Option.some.injEq,Prod.mk.injEq,true_and,exists_eq']
end Go.Proofs.Ytkimloceaihplaa.Ai
namespace Go.Proofs.Ytkimloceaihplaa.Ai
open Go Go.Proofs
set_option linter.unusedVariables false
set_option linter.unusedSimpArgs false
set_option maxRecDepth 10000
set_option maxHeartbeats 4000000

theorem depT_by (g : GramD) (k : Nat) : depT (byT g k) ≤ 2 := by
  unfold byT
  cases g.rules[k]? with
  | none => simp [zeroT, depT, depTs]
  | some r =>
    have : ∀ l : List Int, depTs (l.map leafT) ≤ 1 := by
      intro l
      induction l with
      | nil => simp [depTs]
      | cons a l ih => simp only [List.map_cons,depTs,leafT,depT]; omega
    have := this r.right
    simp only [depT]
    omega
theorem depT_pos (t : T) : 1 ≤ depT t := by cases t; simp [depT]
mutual
theorem depT_last (g : GramD) (k : Nat) : ∀ t, depT (lastT g k t).1 ≤ depT t + 1
  | .node s r ks => by
    have hb := depT_by g k
    simp only [lastT]
    split
    · split
      · exact Nat.le_succ _
      · split
        · exact Nat.le_succ _
        · simp only [depT]; omega
    · split
      · exact Nat.le_succ _
      · have := depTs_last g k ks
        simp only [depT]; omega
theorem depTs_last (g : GramD) (k : Nat) : ∀ ks, depTs (lastTs g k ks).1 ≤ depTs ks + 1
  | [] => by simp [lastTs, depTs]
  | t :: ks => by
    have h1 := depT_last g k t
    have h2 := depTs_last g k ks
    simp only [lastTs]
    split <;> simp only [depTs] <;> omega
end
theorem depT_rewr (g : GramD) : ∀ (mv : List Int) (t : T) (sz : Int), depT (rewr g mv t sz).1.1 ≤ depT t + mv.length
  | [], t, sz => by simp [rewr]
  | k :: mv, t, sz => by
    have h1 := depT_last g k.toNat t
    have h2 := depT_rewr g mv (lastT g k.toNat t).1 (sz + lenOf g k.toNat)
    simp only [rewr,List.length_cons]
    split
    · simp only; omega
    · split
      · simp only; omega
      · split
        · simp only; omega
        · omega

/-- Recursion and rewriting agree from the start rule on. -/
theorem kids_of {g : GramD} (h0 : ∃ x, g.rules[0]? = some x) {ms : List Int} (rm : ∀ k ∈ ms, 1 ≤ k ∧ k < g.rules.length) :
    (kidsOf g (mkNode g ms.length) 0 ⟨ms.reverse, 2, []⟩).1.2 = (rewr g ms.reverse (byT g 0) 2).1.2 ∧
    ((rewr g ms.reverse (byT g 0) 2).1.2 = 0 → kidsOf g (mkNode g ms.length) 0 ⟨ms.reverse, 2, []⟩ = (((rewr g ms.reverse (byT g 0) 2).1.1, 0), ⟨(rewr g ms.reverse (byT g 0) 2).2.1, (rewr g ms.reverse (byT g 0) 2).2.2, (yieldT (rewr g ms.reverse (byT g 0) 2).1.1).reverse⟩)) := by
  obtain ⟨x, hx⟩ := h0
  have hin : MovesIn g ms.reverse := fun k hk => by
    obtain ⟨a, b⟩ := rm k (List.mem_reverse.1 hk)
    exact ⟨g.rules[k.toNat]'(by omega), List.getElem?_eq_getElem (by omega)⟩
  have eb : byT g 0 = .node (-1 - x.left) ((0 : Nat) : Int) (x.right.map leafT) := by simp only [byT,hx]
  obtain ⟨k1, k2⟩ := kids_rewr (g := g) (n := ms.length) (fun s mv sz y hn hi => mk_rewr g ms.length s mv sz y hn hi) (-1 - x.left) ((0 : Nat) : Int) (by decide) x.right.length x.right [] ms.reverse 2 [] rfl (.inr fun u hu => by cases hu) (by simp) hin
  simp only [List.append_nil,List.nil_append] at k1 k2
  rw [← eb] at k1 k2
  unfold kidsOf
  simp only [hx]
  by_cases q : (rewr g ms.reverse (byT g 0) 2).1.2 = 0
  case neg =>
    rw [k1, if_pos q]
    exact ⟨rfl, fun h => absurd h q⟩
  case pos =>
    obtain ⟨new, j1, j2, _⟩ := k2 q
    rw [j1, if_neg (fun h => h rfl)]
    refine ⟨q.symm, fun _ => ?_⟩
    rw [j2]
    simp only [yieldT,if_neg (show ¬ (((0 : Nat) : Int) = -1) from by decide),List.append_nil]

theorem f_OfAll {g : GramD} (hg : g.Ok) {ws ms : List Int} (lw : ws.length ≤ 1000) (lm : ms.length ≤ 800) : ∃ c, Enc (ofD g ws ms).1 c ∧ ∀ H, lim G0.cfg (.func 25) [.agg (eGram g), .vsl false (eIs ws), .vsl false (eIs ms)] H = some (.tup [.agg c, .int .i64 (ofD g ws ms).2], H) := by
  have c1 := f_Right g hg
  have fa : ∀ h, mapO (freeze h 1000) [.agg (eGram g), .vsl false (eIs ws), .vsl false (eIs ms)] = some ([.agg (eGram g), .vsl false (eIs ws), .vsl false (eIs ms)].map fun x => (x, true)) := fun h => fz_3 (fz_gram g h) (fz_vsl _ _ _) (fz_vsl _ _ _)
  have hwl : Li ws (.vsl false (eIs ws)) := li_vsl false ws
  have hml : Li ms (.vsl false (eIs ms)) := li_vsl false ms
  unfold ofD
  by_cases h0 : gramErr g = 0
  case neg =>
    rw [if_pos h0]
    refine ⟨_, zero_tree, fun H => lim_flat rfl rfl P_tree_Of 1 fa ?_ (fun _ => rfl) H⟩
    rw [R_tree_Of]
    simp only [Zab,Zac,Zad,Zai,Zaj,Zak,Zam,Zar,Zay,Zaz,Zba,Zbi,Zbk,Zbm,Zbn,Zbo,Zbp,Zbq,Zcl,Zco,Zcp,Zcr,Zct,Zcu,Zcv,Zcw,Zcx,Zcy,Zcz,List.set_cons_zero,List.set_cons_succ,List.getD_cons_zero,List.getD_cons_succ,Option.bind_some,Option.map_some,Zdl,Zdz,Zea,decide_false,Bool.not_false,List.getElem?_cons_zero,List.getElem?_cons_succ,List.length_cons,List.length_nil,if_true,Nat.reduceAdd,Nat.reduceSub,Nat.reduceLeDiff,eq_self,and_self,true_and,List.length_cons,List.length_nil,List.replicate_succ,List.replicate_zero,List.cons_append,List.nil_append,aload,acells,getArr,part,astore,putCells,List.all_cons,List.all_nil,cellOk,Bool.and_self,List.drop_zero,List.drop_succ_cons,List.take_succ_cons,List.take_zero,List.take_nil,List.cons_append,List.nil_append,List.set_cons_zero,c1,h0,evp,afill,fillCells,resAll,resVals,resVal,Option.some.injEq,Prod.mk.injEq,true_and,exists_eq']
  case pos =>
  rw [if_neg (fun h => h h0)]
  rw [h0] at c1
  have k1 := f_hasOut hwl (by rw [maxLen_eq]; omega) 0 g.terms.length [.arr 0 5 true [eGram g], .arr 0 3 true [[.int .i64 0, .int .i64 0, .nilS]], .arr 0 1 true [[.int .i64 0]], .arr 0 1 true [[.int .i64 g.terms.length]]] (i := 2) (j := 3) rfl rfl
  cases q1 : ws.any (outB 0 g.terms.length)
  case true =>
    rw [if_pos rfl]
    rw [q1] at k1
    refine ⟨_, zero_tree, fun H => lim_flat rfl rfl P_tree_Of 1 fa ?_ (fun _ => rfl) H⟩
    rw [R_tree_Of]
    simp only [Zaa,Zab,Zac,Zad,Zae,Zai,Zaj,Zak,Zam,Zao,Zar,Zas,Zay,Zaz,Zba,Zbi,Zbk,Zbm,Zbn,Zbo,Zbp,Zbq,Zby,Zcg,Zcl,Zco,Zcp,Zcr,Zct,Zcu,Zcv,Zcw,Zcx,Zcy,Zcz,List.set_cons_zero,List.set_cons_succ,List.getD_cons_zero,List.getD_cons_succ,Option.bind_some,Option.map_some,Zdl,Zds,Zdw,Zdy,Zdz,Zea,Zep,decide_true,Bool.not_true,List.getElem?_cons_zero,List.getElem?_cons_succ,List.length_cons,List.length_nil,if_true,Nat.reduceAdd,Nat.reduceSub,Nat.reduceLeDiff,eq_self,and_self,true_and,List.length_cons,List.length_nil,List.replicate_succ,List.replicate_zero,List.cons_append,List.nil_append,aload,acells,getArr,part,astore,putCells,List.all_cons,List.all_nil,cellOk,Bool.and_self,List.drop_zero,List.drop_succ_cons,List.take_succ_cons,List.take_zero,List.take_nil,List.cons_append,List.nil_append,List.set_cons_zero,c1,f_outside,k1,evp,afill,fillCells,resAll,resVals,resVal,Option.some.injEq,Prod.mk.injEq,true_and,exists_eq']
  case false =>
  rw [if_neg (by decide)]
  rw [q1] at k1
  have k2 := f_hasOut hml (by rw [maxLen_eq]; omega) 1 g.rules.length [.arr 0 5 true [eGram g], .arr 0 3 true [[.int .i64 0, .int .i64 0, .nilS]], .arr 0 1 true [[.int .i64 0]], .arr 0 1 true [[.int .i64 g.terms.length]], .arr 0 1 true [[.int .i64 1]], .arr 0 1 true [[.int .i64 g.rules.length]]] (i := 4) (j := 5) rfl rfl
  cases q2 : ms.any (outB 1 g.rules.length)
  case true =>
    rw [if_pos rfl]
    rw [q2] at k2
    refine ⟨_, zero_tree, fun H => lim_flat rfl rfl P_tree_Of 1 fa ?_ (fun _ => rfl) H⟩
    rw [R_tree_Of]
    simp only [Zaa,Zab,Zac,Zad,Zae,Zai,Zaj,Zak,Zam,Zao,Zar,Zas,Zay,Zaz,Zba,Zbi,Zbk,Zbm,Zbn,Zbo,Zbp,Zbq,Zby,Zcg,Zcl,Zco,Zcp,Zcr,Zct,Zcu,Zcv,Zcw,Zcx,Zcy,Zcz,List.set_cons_zero,List.set_cons_succ,List.getD_cons_zero,List.getD_cons_succ,Option.bind_some,Option.map_some,Zdl,Zds,Zdw,Zdy,Zdz,Zea,Zep,decide_true,Bool.not_true,List.getElem?_cons_zero,List.getElem?_cons_succ,List.length_cons,List.length_nil,if_true,Nat.reduceAdd,Nat.reduceSub,Nat.reduceLeDiff,eq_self,and_self,true_and,List.length_map,List.length_cons,List.length_nil,List.replicate_succ,List.replicate_zero,List.cons_append,List.nil_append,aload,acells,getArr,part,astore,putCells,List.all_cons,List.all_nil,cellOk,Bool.and_self,List.drop_zero,List.drop_succ_cons,List.take_succ_cons,List.take_zero,List.take_nil,List.cons_append,List.nil_append,List.set_cons_zero,c1,f_outside,k1,k2,evp,afill,fillCells,resAll,resVals,resVal,Option.some.injEq,Prod.mk.injEq,true_and,exists_eq']
  case false =>
  rw [if_neg (by decide)]
  rw [q2] at k2
  have hgr : GramR g := ⟨hg, good_of h0⟩
  have rm : ∀ k ∈ ms, 1 ≤ k ∧ k < g.rules.length := fun k hk => by
    have := List.any_eq_false.1 q2 k hk
    simp only [outB,Bool.or_eq_true,decide_eq_true_eq] at this
    omega
  obtain ⟨x, s, hx, hxl, hxr, hxs⟩ := hgr.good.zero
  obtain ⟨ka, kb⟩ := kids_of ⟨x, hx⟩ rm
  have lw' : ¬ ((65536 : Int) < ws.length) := by omega
  have lm' : ¬ ((65536 : Int) < ms.length) := by omega
  have ww := hwl.len
  have mm := hml.len
  obtain ⟨mc, mo⟩ := hml.cell
  obtain ⟨r1, r2, r3⟩ := hgr.rule hx
  obtain ⟨H, hH⟩ : ∃ H : AHeap, H = [.arr 0 5 true [eGram g], .arr 0 3 true [[.int .i64 0, .int .i64 0, .nilS]], .arr 0 1 true [[.int .i64 0]], .arr 0 1 true [[.int .i64 g.terms.length]], .arr 0 1 true [[.int .i64 1]], .arr 0 1 true [[.int .i64 g.rules.length]], .arr 0 9 true [eMk g (.vsl false (eIs ms)) (.int .i64 0) (.int .i64 2) .nilS]] := ⟨_, rfl⟩
  have hI : MInv g 6 ms.length (0 + x.right.length) ⟨ms.reverse, 2, []⟩ H := by
    refine ⟨.vsl false (eIs ms), .nilS, by rw [hH]; rfl, by rw [List.reverse_reverse]; exact hml, Own.nil _, fun k hk => rm k (by simpa using hk), ?_, by simp, by simp, by simp; omega⟩
    rw [hxr]; simp
  obtain ⟨c, h1, hc, cel, kp, ok⟩ := f_kids (f_node hgr 6 ms.length) g 6 (.vsl false (eIs ms)) (.int .i64 0) (.int .i64 2) .nilS 0 x hx (by omega) r1 r2 r3 0 ⟨ms.reverse, 2, []⟩ H hI (by rw [hH]; rfl)
  have e1 : h1[1]? = some (.arr 0 3 true [[.int .i64 0, .int .i64 0, .nilS]]) := kp 1 _ (by rw [hH]; rfl) soft3
  have e1a : ∀ l : AHeap, (h1 ++ l)[1]? = some (.arr 0 3 true [[.int .i64 0, .int .i64 0, .nilS]]) := fun l => get_app e1 l
  have e1b : ∀ l : AHeap, (List.set (h1 ++ l) 1 (.arr 0 3 true [[.int .i64 0, .int .i64 0, .nilS]]))[1]? = some (.arr 0 3 true [[.int .i64 0, .int .i64 0, .nilS]]) := fun l => get_set_eq (e1a l)
  have dep := depT_rewr g ms.reverse (byT g 0) 2
  have dep0 := depT_by g 0
  rw [List.length_reverse] at dep
  by_cases q3 : (rewr g ms.reverse (byT g 0) 2).1.2 = 0
  case neg =>
    have er : errR (rewr g ms.reverse (byT g 0) 2) = (rewr g ms.reverse (byT g 0) 2).1.2 := by simp [errR, q3]
    rw [er, if_pos q3]
    rw [ka, hH, z0] at hc
    refine ⟨_, zero_tree, fun H => lim_flat rfl rfl P_tree_Of 1 fa ?_ (fun _ => rfl) H⟩
    obtain ⟨ca, cb, kv, rfl, hkv⟩ := cel
    rw [R_tree_Of]
    rcases hkv with rfl | ⟨i, j, rfl⟩ <;> simp only [Zaa,Zab,Zac,Zad,Zae,Zai,Zaj,Zak,Zam,Zan,Zar,Zas,Zay,Zaz,Zba,Zbc,Zbh,Zbi,Zbj,Zbk,Zbl,Zbm,Zbn,Zbo,Zbp,Zbq,Zbt,Zby,Zcf,Zcg,Zcl,Zco,Zcp,Zcr,Zct,Zcu,Zcv,Zcw,Zcx,Zcy,Zcz,List.set_cons_zero,List.set_cons_succ,List.getD_cons_zero,List.getD_cons_succ,Option.bind_some,Option.map_some,Zdi,Zdl,Zds,Zdw,Zdy,Zdz,Zea,Zeb,Zel,Zep,decide_true,decide_false,Bool.not_true,Bool.not_false,List.getElem?_cons_zero,List.getElem?_cons_succ,List.length_cons,List.length_nil,if_true,Nat.reduceAdd,Nat.reduceSub,Nat.reduceLeDiff,eq_self,and_self,true_and,List.length_map,List.length_cons,List.length_nil,List.replicate_succ,List.replicate_zero,List.cons_append,List.nil_append,aload,acells,getArr,part,astore,putCells,get_new,set_new,List.all_cons,List.all_nil,cellOk,Bool.and_self,List.drop_zero,List.drop_succ_cons,List.take_succ_cons,List.take_zero,List.take_nil,List.cons_append,List.nil_append,List.set_cons_zero,c1,f_outside,k1,k2,ww,mm,lw',lm',mc,hc,q3,e1a,e1b,afill,evp,fillCells,Nat.reduceLT,resAll,resVals,resVal,Option.some.injEq,Prod.mk.injEq,true_and,exists_eq']
  case pos =>
  have hk := kb q3
  generalize rewr g ms.reverse (byT g 0) 2 = R at *
  by_cases q4 : R.2.1 = []
  case neg =>
    have er : errR R = 3 := by simp [errR, q3, q4]
    rw [er, if_pos (by decide)]
    rw [hk] at hc ok
    obtain ⟨rep, mv', yv, hb, hml', _⟩ := ok rfl
    have ml := hml'.len
    have hpos : (0 : Int) < (R.2.1.reverse.length : Int) := by
      have := List.length_pos_iff.2 q4
      rw [List.length_reverse]; omega
    have eb : ∀ l : AHeap, (h1 ++ l)[6]? = some (.arr 0 9 true [eMk g mv' (.int .i64 0) (.int .i64 R.2.2) yv]) := fun l => get_app hb l
    rw [hH, z0] at hc
    refine ⟨_, zero_tree, fun H => lim_flat rfl rfl P_tree_Of 1 fa ?_ (fun _ => rfl) H⟩
    obtain ⟨ca, cb, kv, rfl, hkv⟩ := cel
    rw [R_tree_Of]
    rcases hkv with rfl | ⟨i, j, rfl⟩ <;> simp only [Zaa,Zab,Zac,Zad,Zae,Zai,Zaj,Zak,Zam,Zan,Zar,Zas,Zay,Zaz,Zba,Zbc,Zbh,Zbi,Zbj,Zbk,Zbl,Zbm,Zbn,Zbo,Zbp,Zbq,Zbt,Zby,Zbz,Zcf,Zcg,Zcl,Zco,Zcp,Zcr,Zct,Zcu,Zcv,Zcw,Zcx,Zcy,Zcz,List.set_cons_zero,List.set_cons_succ,List.getD_cons_zero,List.getD_cons_succ,Option.bind_some,Option.map_some,Zdi,Zdl,Zds,Zdw,Zdy,Zdz,Zea,Zeb,Zel,Zep,decide_true,decide_false,Bool.not_true,List.getElem?_cons_zero,List.getElem?_cons_succ,List.length_cons,List.length_nil,if_true,Nat.reduceAdd,Nat.reduceSub,Nat.reduceLeDiff,eq_self,and_self,true_and,List.length_map,List.length_cons,List.length_nil,List.replicate_succ,List.replicate_zero,List.cons_append,List.nil_append,aload,acells,getArr,part,astore,putCells,get_new,set_new,List.all_cons,List.all_nil,cellOk,Bool.and_self,List.drop_zero,List.drop_succ_cons,List.take_succ_cons,List.take_zero,List.take_nil,List.cons_append,List.nil_append,List.set_cons_zero,c1,f_outside,k1,k2,ww,mm,lw',lm',mc,hc,eb,ml,hpos,e1a,e1b,an_p,afill,evp,fillCells,Nat.reduceLT,resAll,resVals,resVal,Option.some.injEq,Prod.mk.injEq,true_and,exists_eq']
  case pos =>
  have er : errR R = 0 := by simp [errR, q3, q4]
  rw [er, if_neg (fun h => h rfl)]
  rw [q4] at hk
  by_cases q5 : yieldT R.1.1 = ws
  case pos =>
    rw [if_pos q5]
    exact f_Of hgr h0 hwl hml (by omega) (by omega) q1 rm hk (by rw [List.reverse_reverse]; exact q5) (show depT R.1.1 ≤ 900 by omega)
  case neg =>
    rw [if_neg q5]
    rw [hk] at hc ok
    obtain ⟨rep, mv', yv, hb, hml', ho, _, hp, hsz, _⟩ := ok rfl
    simp only [List.reverse_nil] at hml'
    have ml := hml'.len
    simp only [List.length_nil,z0] at ml
    have eb : ∀ l : AHeap, (h1 ++ l)[6]? = some (.arr 0 9 true [eMk g mv' (.int .i64 0) (.int .i64 R.2.2) yv]) := fun l => get_app hb l
    have hp' : ((yieldT R.1.1).reverse.length : Int) + ((0 : Nat) : Int) ≤ R.2.2 := hp
    have hsz' : R.2.2 ≤ 65536 := hsz
    obtain ⟨h2, hr, ho2, kaa⟩ := f_Reverse (ho.app [.arr 0 3 true [c]]) (by omega)
    rw [List.reverse_reverse] at ho2
    have eb2 := kaa 6 _ (eb _) (fun _ _ e => by cases e)
    have et2 := kaa h1.length _ (get_new h1 (.arr 0 3 true [c])) (fun _ _ e => by cases e)
    have e12 := kaa 1 _ (get_app e1 _) (fun _ _ e => by cases e)
    obtain ⟨cf, hcf⟩ := ho2.freeze
    obtain ⟨h3, hq⟩ := f_Equal_run (li_encL (yieldT R.1.1)) hwl (by have : (yieldT R.1.1).reverse.length = (yieldT R.1.1).length := List.length_reverse; omega)
    have heq : lim G0.cfg (.func 47) [yv, .vsl false (eIs ws)] h2 = some (.bool false, h2) := by
      have := lim_fz (H := h2) rfl rfl P_slices_Equal_sint_int _ (mapO_2 hcf (hwl.fz h2)) hq (rfl : freeze h3 1000 (.bool (decide (yieldT R.1.1 = ws))) = some (.bool (decide (yieldT R.1.1 = ws)), true)) (Bool.or_true _)
      rw [this, decide_eq_false q5]
    have e12' := get_set_eq (y := AObj.arr 0 3 true [[.int .i64 0, .int .i64 0, .nilS]]) e12
    rw [hH, z0] at hc
    refine ⟨_, zero_tree, fun H => lim_flat rfl rfl P_tree_Of 1 fa ?_ (fun _ => rfl) H⟩
    obtain ⟨ca, cb, kv, rfl, hkv⟩ := cel
    rw [R_tree_Of]
    rcases hkv with rfl | ⟨i, j, rfl⟩ <;> simp only [Zaa,Zab,Zac,Zad,Zae,Zai,Zaj,Zak,Zam,Zan,Zar,Zas,Zay,Zaz,Zba,Zbc,Zbh,Zbi,Zbj,Zbk,Zbl,Zbm,Zbn,Zbo,Zbp,Zbq,Zbr,Zbt,Zby,Zbz,Zcf,Zcg,Zcl,Zco,Zcp,Zcr,Zct,Zcu,Zcv,Zcw,Zcx,Zcy,Zcz,List.set_cons_zero,List.set_cons_succ,List.getD_cons_zero,List.getD_cons_succ,Option.bind_some,Option.map_some,Zdi,Zdl,Zdq,Zds,Zdw,Zdy,Zdz,Zea,Zeb,Zel,Zep,decide_true,decide_false,Bool.not_true,Bool.not_false,List.getElem?_cons_zero,List.getElem?_cons_succ,List.length_cons,List.length_nil,if_true,Nat.reduceAdd,Nat.reduceSub,Nat.reduceLeDiff,Int.reduceLT,eq_self,and_self,true_and,List.length_map,List.length_cons,List.length_nil,List.replicate_succ,List.replicate_zero,List.cons_append,List.nil_append,aload,acells,getArr,part,astore,putCells,get_new,set_new,List.all_cons,List.all_nil,cellOk,Bool.and_self,List.drop_zero,List.drop_succ_cons,List.take_succ_cons,List.take_zero,List.take_nil,List.cons_append,List.nil_append,List.set_cons_zero,c1,f_outside,k1,k2,ww,mm,lw',lm',mc,hc,ml,eb,hr,eb2,heq,e12,e12',an_p,afill,evp,fillCells,Nat.reduceLT,resAll,resVals,resVal,Option.some.injEq,Prod.mk.injEq,true_and,exists_eq']
end Go.Proofs.Ytkimloceaihplaa.Ai
