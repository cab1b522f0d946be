/- Trees: the reference's size, yield, reductions; comparison of lists. By program (mk_tr6.py). -/
import Derived.Test.YtkimloceaihplaapTr5
namespace Go.Proofs.Ytkimloceaihplaa.Ai
open Go Go.Proofs
set_option linter.unusedVariables false
set_option linter.unusedSimpArgs false
set_option maxRecDepth 10000
set_option maxHeartbeats 4000000

theorem r_Size : ∀ t, okT t → sizeN t ≤ 1000000 → ∀ H, lim G0.cfg (.func 15) [.agg (cT t)] H = some (.int .i64 (sizeN t), H) := by
  intro t
  induction t using T.ind with
  | _ s r ks ih =>
  intro hok hN H
  obtain ⟨hs, hr, hlen, hoks⟩ := id hok
  rw [maxLen_eq] at hlen
  have hsz : sizeN (.node s r ks) = 1 + sizeNs ks := by simp [sizeN]
  refine lim_flat rfl rfl P_r20_Size (ks.length + 1) (fun h => fz_1 (fz_tree _ h)) ?_ (fun _ => rfl) H
  have loop : ∀ (d i m : Nat) (v : Nat), ks.length = i + d → d < m → v + sizeNs (ks.drop i) ≤ 1000000 →
      loopN (evalCode (lim G0.cfg) (ks.length + 1) B_r20_Size_0) m ⟨[.junk, .ptr 0 0 0 0, .junk, .int .i64 v, .int .i64 i, .junk,.junk,.junk,.junk,.junk,.junk,.junk,.junk,.junk,.junk,.junk,.junk,.junk,.junk,.junk,.junk], [.arr 0 3 true [[.int .i64 s, .int .i64 r, .vsl false (ks.map cT)]]]⟩ =
        some (.exit 0, ⟨[.junk,.junk,.junk, .int .i64 (v + sizeNs (ks.drop i) : Nat), .junk,.junk,.junk,.junk,.junk,.junk,.junk,.junk,.junk,.junk,.junk,.junk,.junk,.junk,.junk,.junk,.junk], [.arr 0 3 true [[.int .i64 s, .int .i64 r, .vsl false (ks.map cT)]]]⟩) := by
    intro d
    induction d with
    | zero =>
      intro i m v h1 h2 h4
      obtain ⟨m, rfl⟩ : ∃ q, m = q + 1 := ⟨m - 1, by omega⟩
      have e1 : ks.drop i = [] := List.drop_eq_nil_iff.2 (by omega)
      have h3 : ¬ ((i : Int) < ks.length) := by omega
      rw [e1]
      simp only [loop_e,EB_r20_Size_0,Zab,Zac,Zad,Zag,Zah,Zaj,Zak,Zal,Zas,Zav,Zay,Zbi,Zbk,Zbo,Zbq,Zby,Zcg,Zcu,Zcw,Zda,Zdb,Zdc,List.set_cons_zero,List.set_cons_succ,List.getD_cons_zero,List.getD_cons_succ,Option.bind_some,Zdg,Zds,Zdw,Zdy,decide_false,List.getElem?_cons_zero,List.length_cons,List.length_nil,if_true,Nat.reduceAdd,Nat.reduceLeDiff,eq_self,List.length_map,aload,acells,getArr,part,List.drop_zero,List.drop_succ_cons,List.take_succ_cons,List.take_nil,List.set_cons_zero,h3,sizeNs,Nat.add_zero]
    | succ d ihd =>
      intro i m v h1 h2 h4
      obtain ⟨m, rfl⟩ : ∃ q, m = q + 1 := ⟨m - 1, by omega⟩
      have h3 : i < ks.length := by omega
      have h3' : (i : Int) < ks.length := by omega
      have e1 : ks.drop i = ks[i] :: ks.drop (i + 1) := List.drop_eq_getElem_cons h3
      have hw := w64s (n := i) (by omega)
      rw [e1] at h4 ⊢
      simp only [sizeNs] at h4 ⊢
      have hmem : ks[i] ∈ ks := List.getElem_mem h3
      have hc := ih ks[i] hmem (okTs_mem hoks hmem) (by omega)
      have hct := cT_len ks[i]
      have htk : List.take 3 (cT ks[i]) = cT ks[i] := List.take_of_length_le (Nat.le_of_eq hct)
      have hadd : IntKind.i64.wrap ((v : Int) + (sizeN ks[i] : Int)) = ((v + sizeN ks[i] : Nat) : Int) := by rw [w64 (by omega) (by omega)]; omega
      have := ihd (i + 1) m (v + sizeN ks[i]) (by omega) (by omega) (by omega)
      rw [← Nat.add_assoc, ← this]
      simp only [loop_e,EB_r20_Size_0,Zaa,Zab,Zac,Zad,Zae,Zag,Zaj,Zak,Zan,Zar,Zau,Zay,Zaz,Zbi,Zbk,Zbo,Zbq,Zby,Zcb,Zcg,Zco,Zcp,Zcu,Zcv,Zcw,Zcy,Zcz,Zda,Zdb,Zdc,List.set_cons_zero,List.set_cons_succ,List.getD_cons_zero,List.getD_cons_succ,Option.bind_some,Zdd,Zdg,Zds,Zdw,Zdy,Zdz,decide_true,List.getElem?_cons_zero,List.length_cons,List.length_nil,if_true,Nat.reduceAdd,Nat.reduceLeDiff,eq_self,List.length_map,aload,acells,getArr,part,List.drop_zero,List.drop_succ_cons,List.take_succ_cons,List.take_nil,List.cons_append,List.nil_append,List.set_cons_zero,h3',ix_tree _ _ ks _ i h3,hct,htk,hc,hadd,hw]
  have e := loop ks.length 0 (ks.length + 1) 1 (by omega) (by omega) (by rw [List.drop_zero]; omega)
  have z1 : ((1 : Nat) : Int) = 1 := rfl
  rw [List.drop_zero, z0, z1] at e
  rw [R_r20_Size, hsz]
  simp only [Zab,Zac,Zae,Zaf,Zag,Zai,Zaj,Zak,Zap,Zat,Zaz,Zbi,Zbk,Zbn,Zcr,Zct,Zcu,Zcv,Zcw,Zda,Zdb,Zdc,List.set_cons_zero,List.set_cons_succ,List.getD_cons_zero,List.getD_cons_succ,Option.map_some,Zea,List.length_cons,List.length_nil,if_true,Nat.reduceAdd,Nat.reduceSub,eq_self,true_and,List.length_cons,List.length_nil,List.replicate_succ,List.replicate_zero,List.cons_append,List.nil_append,List.cons_append,List.nil_append,List.set_cons_zero,cT,cTs_map,e,resAll,resVals,resVal,Option.some.injEq,Prod.mk.injEq,true_and,exists_eq']

theorem f_ints (a b : List Int) (ha : a.length ≤ 1000000) (H : AHeap) : lim G0.cfg (.func 16) [encL a, encL b] H = some (.bool (decide (a = b)), H) := by
  refine lim_flat rfl rfl P_l20_ints (a.length + 1) (fun h => fz_2 (fz_encL h a) (fz_encL h b)) ?_ (fun _ => rfl) H
  rw [R_l20_ints]
  by_cases hl : (a.length : Int) = b.length
  case neg =>
    have hne : ¬ (a = b) := fun e => hl (by rw [e])
    simp only [Zab,Zac,Zad,Zai,Zaj,Zak,Zam,Zar,Zay,Zbi,Zbk,Zbq,Zcg,Zct,Zcu,Zcv,Zcw,List.set_cons_zero,List.set_cons_succ,List.getD_cons_zero,List.getD_cons_succ,Option.map_some,Zdl,decide_false,Bool.not_false,List.length_cons,List.length_nil,Nat.reduceAdd,Nat.reduceSub,eq_self,true_and,List.length_cons,List.length_nil,List.replicate_succ,List.replicate_zero,List.cons_append,List.nil_append,len_encL,hl,hne,resAll,resVals,resVal,Option.some.injEq,Prod.mk.injEq,true_and,exists_eq']
  case pos =>
  have hl2 : a.length = b.length := by omega
  have loop : ∀ (d i m : Nat), a.length = i + d → d < m →
      loopN (evalCode (lim G0.cfg) (a.length + 1) B_l20_ints_0) m ⟨[encL a, encL b, .junk,.junk,.junk, .int .i64 i, .junk,.junk,.junk,.junk,.junk,.junk,.junk,.junk,.junk,.junk,.junk,.junk,.junk,.junk,.junk,.junk,.junk,.junk,.junk,.junk], []⟩ =
        bif decide (a.drop i = b.drop i) then some (.exit 0, ⟨[.junk,.junk,.junk,.junk,.junk,.junk,.junk,.junk,.junk,.junk,.junk,.junk,.junk,.junk,.junk,.junk,.junk,.junk,.junk,.junk,.junk,.junk,.junk,.junk,.junk,.junk], []⟩) else some (.ret, ⟨[.junk,.junk,.junk,.junk, .bool false, .junk,.junk,.junk,.junk,.junk,.junk,.junk,.junk,.junk,.junk,.junk,.junk,.junk,.junk,.junk,.junk,.junk,.junk,.junk,.junk,.junk], []⟩) := by
    intro d
    induction d with
    | zero =>
      intro i m h1 h2
      obtain ⟨m, rfl⟩ : ∃ q, m = q + 1 := ⟨m - 1, by omega⟩
      have e1 : a.drop i = [] := List.drop_eq_nil_iff.2 (by omega)
      have e2 : b.drop i = [] := List.drop_eq_nil_iff.2 (by omega)
      have h3 : ¬ ((i : Int) < a.length) := by omega
      have e3 : decide (a.drop i = b.drop i) = true := by rw [e1, e2]; rfl
      rw [e3]
      simp only [loop_e,EB_l20_ints_0,Zab,Zac,Zad,Zag,Zah,Zaj,Zak,Zal,Zas,Zav,Zay,Zbi,Zbk,Zbq,Zcg,Zcu,Zcw,Zdb,Zdc,List.set_cons_zero,List.set_cons_succ,List.getD_cons_zero,List.getD_cons_succ,Zdg,decide_false,eq_self,cond_true,len_encL,h3]
    | succ d ih =>
      intro i m h1 h2
      obtain ⟨m, rfl⟩ : ∃ q, m = q + 1 := ⟨m - 1, by omega⟩
      have h3 : i < a.length := by omega
      have h3' : (i : Int) < a.length := by omega
      have h4 : i < b.length := by omega
      have e1 : a.drop i = a[i] :: a.drop (i + 1) := List.drop_eq_getElem_cons h3
      have e2 : b.drop i = b[i] :: b.drop (i + 1) := List.drop_eq_getElem_cons h4
      have hw := w64s (n := i) (by omega)
      by_cases hab : a[i] = b[i]
      · have e3 : decide (a.drop i = b.drop i) = decide (a.drop (i + 1) = b.drop (i + 1)) := by rw [e1, e2, hab]; simp only [List.cons.injEq,true_and]
        rw [e3, ← ih (i + 1) m (by omega) (by omega)]
        simp only [loop_e,EB_l20_ints_0,Zaa,Zab,Zac,Zad,Zae,Zag,Zaj,Zak,Zan,Zar,Zas,Zau,Zay,Zbi,Zbk,Zbo,Zbq,Zcb,Zcg,Zcu,Zcv,Zcw,Zda,Zdb,Zdc,List.set_cons_zero,List.set_cons_succ,List.getD_cons_zero,List.getD_cons_succ,Zdd,Zdg,Zdl,Zem,decide_true,Bool.not_true,eq_self,len_encL,h3',ix_encL _ a _ i h3,ix_encL _ b _ i h4,hab,hw]
      · have e3 : decide (a.drop i = b.drop i) = false := by rw [e1, e2]; simp only [List.cons.injEq,hab,false_and,decide_false]
        rw [e3]
        simp only [loop_e,EB_l20_ints_0,Zaa,Zab,Zac,Zad,Zae,Zag,Zai,Zaj,Zak,Zam,Zao,Zar,Zaw,Zay,Zbi,Zbk,Zbo,Zbq,Zcb,Zcg,Zcu,Zcv,Zcw,Zda,Zdb,Zdc,List.set_cons_zero,List.set_cons_succ,List.getD_cons_zero,List.getD_cons_succ,Zdg,Zdl,Zem,decide_true,decide_false,Bool.not_false,eq_self,cond_false,len_encL,h3',ix_encL _ a _ i h3,ix_encL _ b _ i h4,hab]
  have e := loop a.length 0 (a.length + 1) (by omega) (by omega)
  rw [List.drop_zero, List.drop_zero, z0] at e
  cases q : decide (a = b)
  · rw [q] at e
    simp only [cond_false] at e
    simp only [Zaa,Zab,Zac,Zad,Zae,Zaf,Zag,Zaj,Zak,Zam,Zao,Zas,Zat,Zay,Zbi,Zbk,Zbq,Zcg,Zct,Zcu,Zcv,Zcw,Zda,Zdb,Zdc,List.set_cons_zero,List.set_cons_succ,List.getD_cons_zero,List.getD_cons_succ,Option.map_some,Zdl,decide_true,Bool.not_true,List.length_cons,List.length_nil,Nat.reduceAdd,Nat.reduceSub,eq_self,true_and,List.length_cons,List.length_nil,List.replicate_succ,List.replicate_zero,List.cons_append,List.nil_append,len_encL,hl,e,resAll,resVals,resVal,Option.some.injEq,Prod.mk.injEq,true_and,exists_eq']
  · rw [q] at e
    simp only [cond_true] at e
    simp only [Zaa,Zab,Zac,Zad,Zae,Zaf,Zag,Zai,Zaj,Zak,Zap,Zas,Zat,Zay,Zbi,Zbk,Zbq,Zcg,Zct,Zcu,Zcv,Zcw,Zda,Zdb,Zdc,List.set_cons_zero,List.set_cons_succ,List.getD_cons_zero,List.getD_cons_succ,Option.map_some,Zdl,decide_true,Bool.not_true,List.length_cons,List.length_nil,Nat.reduceAdd,Nat.reduceSub,eq_self,true_and,List.length_cons,List.length_nil,List.replicate_succ,List.replicate_zero,List.cons_append,List.nil_append,len_encL,hl,e,resAll,resVals,resVal,Option.some.injEq,Prod.mk.injEq,true_and,exists_eq']

theorem f_ints_self (a : List Int) (ha : a.length ≤ 1000000) (H : AHeap) : lim G0.cfg (.func 16) [encL a, encL a] H = some (.bool true, H) := by
  rw [f_ints a a ha]; simp

mutual
theorem yieldT_len : ∀ t, (yieldT t).length ≤ sizeN t
  | .node s r ks => by
    have := yieldTs_len ks
    simp only [yieldT,sizeN,List.length_append]
    split <;> simp <;> omega
theorem yieldTs_len : ∀ ks, (yieldTs ks).length ≤ sizeNs ks
  | [] => Nat.le_refl _
  | t :: r => by
    have h1 := yieldT_len t
    have h2 := yieldTs_len r
    simp only [yieldTs,sizeNs,List.length_append]; omega
end

theorem r_Yield : ∀ t, okT t → sizeN t ≤ 1000000 → ∀ H, lim G0.cfg (.func 18) [.agg (cT t)] H = some (encL (yieldT t), H) := by
  intro t
  induction t using T.ind with
  | _ s r ks ih =>
  intro hok hN H
  obtain ⟨hs, hr, hlen, hoks⟩ := id hok
  rw [maxLen_eq] at hlen
  have hsz : sizeN (.node s r ks) = 1 + sizeNs ks := by simp [sizeN]
  have loop : ∀ (d i m : Nat) (ys : List Int) (v : AV) (h : AHeap), ks.length = i + d → d < m → ys.length + sizeNs (ks.drop i) ≤ 1000000 → Own ys v h → h[0]? = some (.arr 0 3 true [[.int .i64 s, .int .i64 r, .vsl false (ks.map cT)]]) →
      ∃ v' h', loopN (evalCode (lim G0.cfg) (ks.length + 1) B_r20_Yield_0) m ⟨[.junk, .ptr 0 0 0 0, .junk, v, .int .i64 i, .junk,.junk,.junk,.junk,.junk,.junk,.junk,.junk,.junk,.junk,.junk,.junk,.junk,.junk,.junk,.junk,.junk,.junk,.junk,.junk,.junk,.junk,.junk,.junk], h⟩ = some (.exit 0, ⟨[.junk, .ptr 0 0 0 0, .junk, v', .junk,.junk,.junk,.junk,.junk,.junk,.junk,.junk,.junk,.junk,.junk,.junk,.junk,.junk,.junk,.junk,.junk,.junk,.junk,.junk,.junk,.junk,.junk,.junk,.junk], h'⟩) ∧ Own (ys ++ yieldTs (ks.drop i)) v' h' ∧
        h'[0]? = some (.arr 0 3 true [[.int .i64 s, .int .i64 r, .vsl false (ks.map cT)]]) := by
    intro d
    induction d with
    | zero =>
      intro i m ys v h h1 h2 h4 ho hb
      obtain ⟨m, rfl⟩ : ∃ q, m = q + 1 := ⟨m - 1, by omega⟩
      have e1 : ks.drop i = [] := List.drop_eq_nil_iff.2 (by omega)
      have h3 : ¬ ((i : Int) < ks.length) := by omega
      rw [e1]
      exact ⟨v, h, by simp only [loop_e,EB_r20_Yield_0,Zab,Zac,Zad,Zag,Zah,Zaj,Zak,Zal,Zas,Zav,Zay,Zbi,Zbk,Zbo,Zbq,Zby,Zcg,Zcu,Zcw,Zda,Zdb,Zdc,List.set_cons_zero,List.set_cons_succ,List.getD_cons_zero,List.getD_cons_succ,Option.bind_some,Zdg,Zds,Zdw,Zdy,decide_false,List.getElem?_cons_zero,List.length_cons,List.length_nil,if_true,Nat.reduceAdd,Nat.reduceLeDiff,eq_self,List.length_map,aload,acells,getArr,part,List.drop_zero,List.drop_succ_cons,List.take_succ_cons,List.take_nil,List.set_cons_zero,hb,h3], by simpa [yieldTs] using ho, hb⟩
    | succ d ihd =>
      intro i m ys v h h1 h2 h4 ho hb
      obtain ⟨m, rfl⟩ : ∃ q, m = q + 1 := ⟨m - 1, by omega⟩
      have h3 : i < ks.length := by omega
      have h3' : (i : Int) < ks.length := by omega
      have e1 : ks.drop i = ks[i] :: ks.drop (i + 1) := List.drop_eq_getElem_cons h3
      have hw := w64s (n := i) (by omega)
      rw [e1] at h4 ⊢
      simp only [sizeNs,yieldTs] at h4 ⊢
      have hmem : ks[i] ∈ ks := List.getElem_mem h3
      have hc := ih ks[i] hmem (okTs_mem hoks hmem) (by omega)
      have hct := cT_len ks[i]
      have htk : List.take 3 (cT ks[i]) = cT ks[i] := List.take_of_length_le (Nat.le_of_eq hct)
      have hyl := yieldT_len ks[i]
      obtain ⟨v1, h1', a1, a2, a3⟩ := ho.append (x := encL (yieldT ks[i])) (elems_encL h _) (by omega)
      have hb' := a3 0 _ hb (fun _ _ e => by cases e)
      obtain ⟨v2, h2', b1, b2, b3⟩ := ihd (i + 1) m _ v1 h1' (by omega) (by omega) (by rw [List.length_append]; omega) a2 hb'
      refine ⟨v2, h2', ?_, by rw [← List.append_assoc]; exact b2, b3⟩
      rw [← b1]
      simp only [loop_e,EB_r20_Yield_0,Zaa,Zab,Zac,Zad,Zae,Zag,Zaj,Zak,Zan,Zar,Zau,Zay,Zaz,Zbi,Zbk,Zbo,Zbq,Zby,Zcb,Zcg,Zci,Zco,Zcp,Zcu,Zcv,Zcw,Zcy,Zcz,Zda,Zdb,Zdc,List.set_cons_zero,List.set_cons_succ,List.getD_cons_zero,List.getD_cons_succ,Option.bind_some,Zdd,Zdg,Zds,Zdw,Zdy,Zdz,decide_true,List.getElem?_cons_zero,List.length_cons,List.length_nil,if_true,Nat.reduceAdd,Nat.reduceLeDiff,eq_self,List.length_map,aload,acells,getArr,part,List.drop_zero,List.drop_succ_cons,List.take_succ_cons,List.take_nil,List.cons_append,List.nil_append,List.set_cons_zero,hb,h3',ix_tree _ _ ks _ i h3,hct,htk,hc,a1,hw]
  obtain ⟨v, h', e, ho, hb⟩ := loop ks.length 0 (ks.length + 1) [] .nilS [.arr 0 3 true [[.int .i64 s, .int .i64 r, .vsl false (ks.map cT)]]] (by omega) (by omega) (by rw [List.drop_zero]; simp; omega) (Own.nil _) rfl
  rw [List.drop_zero, List.nil_append] at ho
  rw [z0] at e
  have hlk := yieldTs_len ks
  by_cases q : r = -1
  case neg =>
    have hR : yieldT (.node s r ks) = yieldTs ks := by simp [yieldT, q]
    rw [hR]
    obtain ⟨c, hfz⟩ := ho.freeze
    refine lim_at rfl rfl P_r20_Yield (ks.length + 1) (fun h => fz_1 (fz_tree _ h)) ?_ hfz H
    rw [R_r20_Yield]
    simp only [Zaa,Zab,Zac,Zad,Zae,Zaf,Zag,Zai,Zaj,Zak,Zap,Zas,Zat,Zay,Zaz,Zbi,Zbk,Zbn,Zbo,Zbq,Zby,Zcr,Zct,Zcu,Zcv,Zcw,Zda,Zdb,Zdc,List.set_cons_zero,List.set_cons_succ,List.getD_cons_zero,List.getD_cons_succ,Option.bind_some,Option.map_some,Zdk,Zdw,Zdy,Zea,decide_false,List.getElem?_cons_zero,List.length_cons,List.length_nil,if_true,Nat.reduceAdd,Nat.reduceSub,Nat.reduceLeDiff,Int.reduceNeg,eq_self,List.length_cons,List.length_nil,List.replicate_succ,List.replicate_zero,List.cons_append,List.nil_append,aload,acells,getArr,part,List.drop_zero,List.drop_succ_cons,List.take_succ_cons,List.take_zero,List.cons_append,List.nil_append,List.set_cons_zero,cT,cTs_map,e,hb,q,resAll,resVals,resVal]
  case pos =>
    have hR : yieldT (.node s r ks) = yieldTs ks ++ [s] := by simp [yieldT, q]
    rw [hR]
    obtain ⟨v', h2, a, b, c'⟩ := ho.append (zs := [s]) (elems_one h' true s) (by simp; omega)
    obtain ⟨c, hfz⟩ := b.freeze
    refine lim_at rfl rfl P_r20_Yield (ks.length + 1) (fun h => fz_1 (fz_tree _ h)) ?_ hfz H
    rw [R_r20_Yield]
    subst q
    simp only [Zab,Zac,Zad,Zae,Zaf,Zag,Zai,Zaj,Zak,Zap,Zar,Zat,Zay,Zaz,Zbi,Zbk,Zbn,Zbo,Zbq,Zby,Zci,Zcm,Zcr,Zct,Zcu,Zcv,Zcw,Zda,Zdb,Zdc,List.set_cons_zero,List.set_cons_succ,List.getD_cons_zero,List.getD_cons_succ,Option.bind_some,Option.map_some,Zdk,Zdw,Zdy,Zea,decide_true,List.getElem?_cons_zero,List.length_cons,List.length_nil,if_true,Nat.reduceAdd,Nat.reduceSub,Nat.reduceLeDiff,Int.reduceNeg,eq_self,List.length_cons,List.length_nil,List.replicate_succ,List.replicate_zero,List.cons_append,List.nil_append,aload,acells,getArr,part,List.drop_zero,List.drop_succ_cons,List.take_succ_cons,List.take_zero,List.cons_append,List.nil_append,List.set_cons_zero,cT,cTs_map,e,hb,ev2,lit_one,a,resAll,resVals,resVal]


mutual
theorem redsT_len : ∀ t, (redsT t).length ≤ sizeN t
  | .node s r ks => by
    have := redsTs_len ks
    simp only [redsT,sizeN,List.length_append]
    split <;> simp <;> omega
theorem redsTs_len : ∀ ks, (redsTs ks).length ≤ sizeNs ks
  | [] => Nat.le_refl _
  | t :: r => by
    have h1 := redsT_len t
    have h2 := redsTs_len r
    simp only [redsTs,sizeNs,List.length_append]; omega
end

theorem r_Reductions : ∀ t, okT t → sizeN t ≤ 1000000 → ∀ H, lim G0.cfg (.func 20) [.agg (cT t)] H = some (encL (redsT t), H) := by
  intro t
  induction t using T.ind with
  | _ s r ks ih =>
  intro hok hN H
  obtain ⟨hs, hr, hlen, hoks⟩ := id hok
  rw [maxLen_eq] at hlen
  have hsz : sizeN (.node s r ks) = 1 + sizeNs ks := by simp [sizeN]
  have loop : ∀ (d i m : Nat) (ys : List Int) (v : AV) (h : AHeap), ks.length = i + d → d < m → ys.length + sizeNs (ks.drop i) ≤ 1000000 → Own ys v h → h[0]? = some (.arr 0 3 true [[.int .i64 s, .int .i64 r, .vsl false (ks.map cT)]]) →
      ∃ v' h', loopN (evalCode (lim G0.cfg) (ks.length + 1) B_r20_Reductions_0) m ⟨[.junk, .ptr 0 0 0 0, .junk, v, .int .i64 i, .junk,.junk,.junk,.junk,.junk,.junk,.junk,.junk,.junk,.junk,.junk,.junk,.junk,.junk,.junk,.junk,.junk,.junk,.junk,.junk,.junk,.junk,.junk,.junk,.junk,.junk,.junk,.junk,.junk], h⟩ = some (.exit 0, ⟨[.junk, .ptr 0 0 0 0, .junk, v', .junk,.junk,.junk,.junk,.junk,.junk,.junk,.junk,.junk,.junk,.junk,.junk,.junk,.junk,.junk,.junk,.junk,.junk,.junk,.junk,.junk,.junk,.junk,.junk,.junk,.junk,.junk,.junk,.junk,.junk], h'⟩) ∧ Own (ys ++ redsTs (ks.drop i)) v' h' ∧
        h'[0]? = some (.arr 0 3 true [[.int .i64 s, .int .i64 r, .vsl false (ks.map cT)]]) := by
    intro d
    induction d with
    | zero =>
      intro i m ys v h h1 h2 h4 ho hb
      obtain ⟨m, rfl⟩ : ∃ q, m = q + 1 := ⟨m - 1, by omega⟩
      have e1 : ks.drop i = [] := List.drop_eq_nil_iff.2 (by omega)
      have h3 : ¬ ((i : Int) < ks.length) := by omega
      rw [e1]
      exact ⟨v, h, by simp only [loop_e,EB_r20_Reductions_0,Zab,Zac,Zad,Zag,Zah,Zaj,Zak,Zal,Zas,Zav,Zay,Zbi,Zbk,Zbo,Zbq,Zby,Zcg,Zcu,Zcw,Zda,Zdb,Zdc,List.set_cons_zero,List.set_cons_succ,List.getD_cons_zero,List.getD_cons_succ,Option.bind_some,Zdg,Zds,Zdw,Zdy,decide_false,List.getElem?_cons_zero,List.length_cons,List.length_nil,if_true,Nat.reduceAdd,Nat.reduceLeDiff,eq_self,List.length_map,aload,acells,getArr,part,List.drop_zero,List.drop_succ_cons,List.take_succ_cons,List.take_nil,List.set_cons_zero,hb,h3], by simpa [redsTs] using ho, hb⟩
    | succ d ihd =>
      intro i m ys v h h1 h2 h4 ho hb
      obtain ⟨m, rfl⟩ : ∃ q, m = q + 1 := ⟨m - 1, by omega⟩
      have h3 : i < ks.length := by omega
      have h3' : (i : Int) < ks.length := by omega
      have e1 : ks.drop i = ks[i] :: ks.drop (i + 1) := List.drop_eq_getElem_cons h3
      have hw := w64s (n := i) (by omega)
      rw [e1] at h4 ⊢
      simp only [sizeNs,redsTs] at h4 ⊢
      have hmem : ks[i] ∈ ks := List.getElem_mem h3
      have hc := ih ks[i] hmem (okTs_mem hoks hmem) (by omega)
      have hct := cT_len ks[i]
      have htk : List.take 3 (cT ks[i]) = cT ks[i] := List.take_of_length_le (Nat.le_of_eq hct)
      have hyl := redsT_len ks[i]
      obtain ⟨v1, h1', a1, a2, a3⟩ := ho.append (x := encL (redsT ks[i])) (elems_encL h _) (by omega)
      have hb' := a3 0 _ hb (fun _ _ e => by cases e)
      obtain ⟨v2, h2', b1, b2, b3⟩ := ihd (i + 1) m _ v1 h1' (by omega) (by omega) (by rw [List.length_append]; omega) a2 hb'
      refine ⟨v2, h2', ?_, by rw [← List.append_assoc]; exact b2, b3⟩
      rw [← b1]
      simp only [loop_e,EB_r20_Reductions_0,Zaa,Zab,Zac,Zad,Zae,Zag,Zaj,Zak,Zan,Zar,Zau,Zay,Zaz,Zbi,Zbk,Zbo,Zbq,Zby,Zcb,Zcg,Zci,Zco,Zcp,Zcu,Zcv,Zcw,Zcy,Zcz,Zda,Zdb,Zdc,List.set_cons_zero,List.set_cons_succ,List.getD_cons_zero,List.getD_cons_succ,Option.bind_some,Zdd,Zdg,Zds,Zdw,Zdy,Zdz,decide_true,List.getElem?_cons_zero,List.length_cons,List.length_nil,if_true,Nat.reduceAdd,Nat.reduceLeDiff,eq_self,List.length_map,aload,acells,getArr,part,List.drop_zero,List.drop_succ_cons,List.take_succ_cons,List.take_nil,List.cons_append,List.nil_append,List.set_cons_zero,hb,h3',ix_tree _ _ ks _ i h3,hct,htk,hc,a1,hw]
  obtain ⟨v, h', e, ho, hb⟩ := loop ks.length 0 (ks.length + 1) [] .nilS [.arr 0 3 true [[.int .i64 s, .int .i64 r, .vsl false (ks.map cT)]]] (by omega) (by omega) (by rw [List.drop_zero]; simp; omega) (Own.nil _) rfl
  rw [List.drop_zero, List.nil_append] at ho
  rw [z0] at e
  have hlk := redsTs_len ks
  by_cases q : r = -1
  case pos =>
    have hR : redsT (.node s r ks) = redsTs ks := by simp [redsT, q]
    rw [hR]
    obtain ⟨c, hfz⟩ := ho.freeze
    refine lim_at rfl rfl P_r20_Reductions (ks.length + 1) (fun h => fz_1 (fz_tree _ h)) ?_ hfz H
    rw [R_r20_Reductions]
    subst q
    simp only [Zaa,Zab,Zac,Zad,Zae,Zaf,Zag,Zai,Zaj,Zak,Zap,Zas,Zat,Zay,Zaz,Zbe,Zbh,Zbi,Zbj,Zbk,Zbl,Zbn,Zbo,Zbq,Zby,Zcr,Zct,Zcu,Zcv,Zcw,Zda,Zdb,Zdc,List.set_cons_zero,List.set_cons_succ,List.getD_cons_zero,List.getD_cons_succ,Option.bind_some,Option.map_some,Zdl,Zdw,Zdy,Zea,decide_true,Bool.not_true,List.getElem?_cons_zero,List.length_cons,List.length_nil,if_true,Nat.reduceAdd,Nat.reduceSub,Nat.reduceLeDiff,Int.reduceNeg,eq_self,List.length_cons,List.length_nil,List.replicate_succ,List.replicate_zero,List.cons_append,List.nil_append,aload,acells,getArr,part,List.drop_zero,List.drop_succ_cons,List.take_succ_cons,List.take_zero,List.cons_append,List.nil_append,List.set_cons_zero,cT,cTs_map,e,hb,resAll,resVals,resVal]
  case neg =>
  by_cases q0 : r = 0
  case pos =>
    have hR : redsT (.node s r ks) = redsTs ks := by simp [redsT, q0]
    rw [hR]
    obtain ⟨c, hfz⟩ := ho.freeze
    refine lim_at rfl rfl P_r20_Reductions (ks.length + 1) (fun h => fz_1 (fz_tree _ h)) ?_ hfz H
    rw [R_r20_Reductions]
    subst q0
    simp only [Zaa,Zab,Zac,Zad,Zae,Zaf,Zag,Zai,Zaj,Zak,Zap,Zas,Zat,Zay,Zaz,Zbb,Zbg,Zbi,Zbj,Zbk,Zbl,Zbn,Zbo,Zbq,Zby,Zcr,Zct,Zcu,Zcv,Zcw,Zda,Zdb,Zdc,List.set_cons_zero,List.set_cons_succ,List.getD_cons_zero,List.getD_cons_succ,Option.bind_some,Option.map_some,Zdl,Zdw,Zdy,Zea,decide_true,decide_false,Bool.not_true,Bool.not_false,List.getElem?_cons_zero,List.length_cons,List.length_nil,if_true,Nat.reduceAdd,Nat.reduceSub,Nat.reduceLeDiff,Int.reduceNeg,Int.reduceEq,eq_self,List.length_cons,List.length_nil,List.replicate_succ,List.replicate_zero,List.cons_append,List.nil_append,aload,acells,getArr,part,List.drop_zero,List.drop_succ_cons,List.take_succ_cons,List.take_zero,List.cons_append,List.nil_append,List.set_cons_zero,cT,cTs_map,e,hb,resAll,resVals,resVal]
  case neg =>
    have hR : redsT (.node s r ks) = redsTs ks ++ [r] := by simp [redsT, q, q0]
    rw [hR]
    obtain ⟨v', h2, a, b, c'⟩ := ho.append (zs := [r]) (elems_one h' true r) (by simp; omega)
    obtain ⟨c, hfz⟩ := b.freeze
    refine lim_at rfl rfl P_r20_Reductions (ks.length + 1) (fun h => fz_1 (fz_tree _ h)) ?_ hfz H
    rw [R_r20_Reductions]
    simp only [Zab,Zac,Zad,Zae,Zaf,Zag,Zai,Zaj,Zak,Zap,Zar,Zat,Zay,Zaz,Zbb,Zbg,Zbi,Zbj,Zbk,Zbl,Zbn,Zbo,Zbq,Zby,Zci,Zcm,Zcr,Zct,Zcu,Zcv,Zcw,Zda,Zdb,Zdc,List.set_cons_zero,List.set_cons_succ,List.getD_cons_zero,List.getD_cons_succ,Option.bind_some,Option.map_some,Zdl,Zdw,Zdy,Zea,decide_false,Bool.not_false,List.getElem?_cons_zero,List.length_cons,List.length_nil,if_true,Nat.reduceAdd,Nat.reduceSub,Nat.reduceLeDiff,Int.reduceNeg,eq_self,List.length_cons,List.length_nil,List.replicate_succ,List.replicate_zero,List.cons_append,List.nil_append,aload,acells,getArr,part,List.drop_zero,List.drop_succ_cons,List.take_succ_cons,List.take_zero,List.cons_append,List.nil_append,List.set_cons_zero,cT,cTs_map,e,hb,q,q0,ev2,lit_one,a,resAll,resVals,resVal]

end Go.Proofs.Ytkimloceaihplaa.Ai
