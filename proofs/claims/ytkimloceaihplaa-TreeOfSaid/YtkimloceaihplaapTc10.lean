/- TreeOf: the law. -/
import Derived.Test.YtkimloceaihplaapTcb
import Derived.Test.YtkimloceaihplaapKn1
import Derived.Test.YtkimloceaihplaapFw1
namespace Go.Proofs.Ytkimloceaihplaa.Ai
open Go Go.Proofs
set_option linter.unusedVariables false
set_option linter.unusedSimpArgs false
set_option maxRecDepth 10000
set_option maxHeartbeats 4000000

theorem r_SameN : ∀ a, sizeN a ≤ 1000000 → ∀ ca b cb, Enc a ca → Enc b cb → ∀ H, lim G0.cfg (.func 24) [.agg ca, .agg cb] H = some (.bool (sameB a b), H) := by
  intro a
  induction a using T.ind with
  | _ s r ks ih =>
  intro hok ca b cb ha hb H
  obtain ⟨s', r', ks'⟩ := b
  have hlen : (ks.length : Int) ≤ sizeNs ks := len_sizeNs ks
  simp only [sizeN] at hok
  refine lim_flat rfl rfl P_r20_Same (ks.length + 1) (fun h => fz_2 (fz_enc ha h) (fz_enc hb h)) ?_ (fun _ => rfl) H
  obtain ⟨kv, rfl, la, xa, _⟩ := ha.open
  obtain ⟨kw, rfl, lb, xb, _⟩ := hb.open
  have loop : ∀ (d i m : Nat), ks.length = i + d → d < m → ks.length = ks'.length →
      loopN (evalCode (lim G0.cfg) (ks.length + 1) B_r20_Same_0) m ⟨(.junk::.junk :: .ptr 0 0 0 0 :: .ptr 1 0 0 0 :: .junk :: .int .i64 i :: .junk::.junk::.junk::.junk::.junk::.junk::.junk::.junk::.junk::.junk::.junk::.junk::.junk::.junk::.junk::.junk::.junk::.junk::.junk::.junk::.junk::.junk::.junk::.junk::.junk::.junk::.junk::.junk::.junk::.junk::.junk::.junk::.junk::.junk::.junk::.junk::.junk::.junk::.junk::.junk :: []), [.arr 0 3 true [[.int .i64 s, .int .i64 r, kv]], .arr 0 3 true [[.int .i64 s', .int .i64 r', kw]]]⟩ =
        (bif sameBs (ks.drop i) (ks'.drop i) then some (.exit 0, ⟨(.junk::.junk::.junk::.junk::.junk::.junk::.junk::.junk::.junk::.junk::.junk::.junk::.junk::.junk::.junk::.junk::.junk::.junk::.junk::.junk::.junk::.junk::.junk::.junk::.junk::.junk::.junk::.junk::.junk::.junk::.junk::.junk::.junk::.junk::.junk::.junk::.junk::.junk::.junk::.junk::.junk::.junk::.junk::.junk::.junk::.junk :: []), [.arr 0 3 true [[.int .i64 s, .int .i64 r, kv]], .arr 0 3 true [[.int .i64 s', .int .i64 r', kw]]]⟩)
          else some (.ret, ⟨(.junk::.junk::.junk::.junk :: .bool false::.junk::.junk::.junk::.junk::.junk::.junk::.junk::.junk::.junk::.junk::.junk::.junk::.junk::.junk::.junk::.junk::.junk::.junk::.junk::.junk::.junk::.junk::.junk::.junk::.junk::.junk::.junk::.junk::.junk::.junk::.junk::.junk::.junk::.junk::.junk::.junk::.junk::.junk::.junk::.junk::.junk :: []), [.arr 0 3 true [[.int .i64 s, .int .i64 r, kv]], .arr 0 3 true [[.int .i64 s', .int .i64 r', kw]]]⟩)) := by
    intro d
    induction d with
    | zero =>
      intro i m h1 h3 hl
      obtain ⟨m, rfl⟩ : ∃ q, m = q + 1 := ⟨m - 1, by omega⟩
      have e1 : ks.drop i = [] := List.drop_eq_nil_iff.2 (by omega)
      have h5 : ¬ ((i : Int) < ks.length) := by omega
      rw [e1]
      simp only [loop_e,EB_r20_Same_0,Zab,Zac,Zad,Zag,Zah,Zaj,Zak,Zal,Zas,Zav,Zay,Zbi,Zbk,Zbo,Zbq,Zby,Zcg,Zcu,Zcw,Zdb,Zdc,List.set_cons_zero,List.set_cons_succ,List.getD_cons_zero,List.getD_cons_succ,Option.bind_some,Zdg,Zdw,Zdy,decide_false,List.getElem?_cons_zero,List.length_cons,List.length_nil,if_true,Nat.reduceAdd,Nat.reduceLeDiff,eq_self,cond_true,aload,acells,getArr,part,List.drop_zero,List.drop_succ_cons,List.take_succ_cons,List.take_nil,List.set_cons_zero,la,h5,sameBs]
    | succ d ihd =>
      intro i m h1 h3 hl
      obtain ⟨m, rfl⟩ : ∃ q, m = q + 1 := ⟨m - 1, by omega⟩
      have h5 : i < ks.length := by omega
      have h5' : (i : Int) < ks.length := by omega
      have h6 : i < ks'.length := by omega
      have e1 : ks.drop i = ks[i] :: ks.drop (i + 1) := List.drop_eq_getElem_cons h5
      have e2 : ks'.drop i = ks'[i] :: ks'.drop (i + 1) := List.drop_eq_getElem_cons h6
      have hw := w64s (n := i) (by omega)
      have hmem : ks[i] ∈ ks := List.getElem_mem h5
      obtain ⟨ci, ei, xi⟩ := xa i h5
      obtain ⟨cj, ej, xj⟩ := xb i h6
      have hc := ih ks[i] hmem (by have := sizeNs_mem hmem; omega) ci _ cj ei ej
      obtain ⟨ki, rfl⟩ := ei.cells
      obtain ⟨kj, rfl⟩ := ej.cells
      rw [e1, e2]
      simp only [sameBs]
      cases q : sameB ks[i] ks'[i]
      case false =>
        rw [q] at hc
        simp only [loop_e,EB_r20_Same_0,Zaa,Zab,Zac,Zad,Zae,Zag,Zai,Zaj,Zak,Zam,Zao,Zar,Zaw,Zay,Zaz,Zbi,Zbk,Zbo,Zbq,Zbr,Zby,Zcb,Zcg,Zco,Zcp,Zcu,Zcv,Zcw,Zcy,Zcz,Zda,Zdb,Zdc,List.set_cons_zero,List.set_cons_succ,List.getD_cons_zero,List.getD_cons_succ,Option.bind_some,Zdg,Zdq,Zdw,Zdy,Zdz,decide_true,Bool.not_false,List.getElem?_cons_zero,List.getElem?_cons_succ,List.length_cons,List.length_nil,if_true,Nat.reduceAdd,Nat.reduceLeDiff,eq_self,cond_false,aload,acells,getArr,part,List.drop_zero,List.drop_succ_cons,List.take_succ_cons,List.take_nil,List.cons_append,List.nil_append,List.set_cons_zero,la,h5',xi,xj,hc,Bool.false_and]
      case true =>
        rw [q] at hc
        have e := ihd (i + 1) m (by omega) (by omega) hl
        rw [Bool.true_and, ← e]
        simp only [loop_e,EB_r20_Same_0,Zaa,Zab,Zac,Zad,Zae,Zag,Zaj,Zak,Zan,Zar,Zas,Zau,Zay,Zaz,Zbi,Zbk,Zbo,Zbq,Zbr,Zby,Zcb,Zcg,Zco,Zcp,Zcu,Zcv,Zcw,Zcy,Zcz,Zda,Zdb,Zdc,List.set_cons_zero,List.set_cons_succ,List.getD_cons_zero,List.getD_cons_succ,Option.bind_some,Zdd,Zdg,Zdq,Zdw,Zdy,Zdz,decide_true,Bool.not_true,List.getElem?_cons_zero,List.getElem?_cons_succ,List.length_cons,List.length_nil,if_true,Nat.reduceAdd,Nat.reduceLeDiff,eq_self,aload,acells,getArr,part,List.drop_zero,List.drop_succ_cons,List.take_succ_cons,List.take_nil,List.cons_append,List.nil_append,List.set_cons_zero,la,h5',xi,xj,hc,hw]
  rw [R_r20_Same]
  by_cases q1 : s = s'
  case neg => simp only [Zab,Zac,Zad,Zai,Zaj,Zak,Zam,Zar,Zay,Zaz,Zbd,Zbg,Zbi,Zbj,Zbk,Zbl,Zbn,Zbo,Zbq,Zby,Zcr,Zct,Zcu,Zcv,Zcw,List.set_cons_zero,List.set_cons_succ,List.getD_cons_zero,List.getD_cons_succ,Option.bind_some,Option.map_some,Zdl,Zdw,Zdy,Zea,decide_false,Bool.not_false,List.getElem?_cons_zero,List.getElem?_cons_succ,List.length_cons,List.length_nil,if_true,Nat.reduceAdd,Nat.reduceSub,Nat.reduceLeDiff,eq_self,true_and,List.length_cons,List.length_nil,List.replicate_succ,List.replicate_zero,List.cons_append,List.nil_append,aload,acells,getArr,part,List.drop_zero,List.take_succ_cons,List.take_zero,List.cons_append,List.nil_append,List.set_cons_zero,q1,sameB,resAll,resVals,resVal,Option.some.injEq,Prod.mk.injEq,true_and,Bool.false_and,exists_eq']
  case pos =>
  by_cases q2 : r = r'
  case neg => simp only [Zab,Zac,Zad,Zai,Zaj,Zak,Zam,Zar,Zay,Zaz,Zbc,Zbd,Zbg,Zbh,Zbi,Zbj,Zbk,Zbl,Zbn,Zbo,Zbq,Zby,Zcr,Zct,Zcu,Zcv,Zcw,List.set_cons_zero,List.set_cons_succ,List.getD_cons_zero,List.getD_cons_succ,Option.bind_some,Option.map_some,Zdl,Zdw,Zdy,Zea,decide_true,decide_false,Bool.not_true,Bool.not_false,List.getElem?_cons_zero,List.getElem?_cons_succ,List.length_cons,List.length_nil,if_true,Nat.reduceAdd,Nat.reduceSub,Nat.reduceLeDiff,eq_self,true_and,List.length_cons,List.length_nil,List.replicate_succ,List.replicate_zero,List.cons_append,List.nil_append,aload,acells,getArr,part,List.drop_zero,List.drop_succ_cons,List.take_succ_cons,List.take_zero,List.cons_append,List.nil_append,List.set_cons_zero,q1,q2,sameB,resAll,resVals,resVal,Option.some.injEq,Prod.mk.injEq,true_and,Bool.false_and,Bool.and_false,exists_eq']
  case pos =>
  by_cases q3 : (ks.length : Int) = ks'.length
  case neg => simp only [Zab,Zac,Zad,Zai,Zaj,Zak,Zam,Zar,Zay,Zaz,Zbc,Zbh,Zbi,Zbj,Zbk,Zbl,Zbn,Zbo,Zbq,Zby,Zcg,Zcr,Zct,Zcu,Zcv,Zcw,List.set_cons_zero,List.set_cons_succ,List.getD_cons_zero,List.getD_cons_succ,Option.bind_some,Option.map_some,Zdl,Zdw,Zdy,Zea,decide_true,decide_false,Bool.not_true,Bool.not_false,List.getElem?_cons_zero,List.getElem?_cons_succ,List.length_cons,List.length_nil,if_true,Nat.reduceAdd,Nat.reduceSub,Nat.reduceLeDiff,eq_self,true_and,List.length_cons,List.length_nil,List.replicate_succ,List.replicate_zero,List.cons_append,List.nil_append,aload,acells,getArr,part,List.drop_zero,List.drop_succ_cons,List.take_succ_cons,List.take_zero,List.take_nil,List.cons_append,List.nil_append,List.set_cons_zero,q1,q2,la,lb,q3,sameB,resAll,resVals,resVal,Option.some.injEq,Prod.mk.injEq,true_and,Bool.false_and,Bool.and_false,exists_eq']
  case pos =>
  have e := loop ks.length 0 (ks.length + 1) (by omega) (by omega) (by omega)
  rw [List.drop_zero, List.drop_zero, z0] at e
  subst q1 q2
  cases q : sameBs ks ks'
  all_goals
    rw [q] at e
    simp only [cond_true,cond_false] at e
    simp only [Zaa,Zab,Zac,Zad,Zae,Zaf,Zag,Zai,Zaj,Zak,Zam,Zao,Zap,Zas,Zat,Zay,Zaz,Zbc,Zbh,Zbi,Zbj,Zbk,Zbl,Zbn,Zbo,Zbq,Zby,Zcg,Zcr,Zct,Zcu,Zcv,Zcw,Zda,Zdb,Zdc,List.set_cons_zero,List.set_cons_succ,List.getD_cons_zero,List.getD_cons_succ,Option.bind_some,Option.map_some,Zdl,Zdw,Zdy,Zea,decide_true,Bool.not_true,List.getElem?_cons_zero,List.getElem?_cons_succ,List.length_cons,List.length_nil,if_true,Nat.reduceAdd,Nat.reduceSub,Nat.reduceLeDiff,eq_self,true_and,List.length_cons,List.length_nil,List.replicate_succ,List.replicate_zero,List.cons_append,List.nil_append,aload,acells,getArr,part,Bool.and_self,List.drop_zero,List.drop_succ_cons,List.take_succ_cons,List.take_zero,List.take_nil,List.cons_append,List.nil_append,List.set_cons_zero,la,lb,q3,e,sameB,q,resAll,resVals,resVal,Option.some.injEq,Prod.mk.injEq,true_and,Bool.and_false,exists_eq']

theorem sizeN_rewr (g : GramD) : ∀ (mv : List Int) (t : T) (sz : Int), (sizeN t : Int) ≤ sz → sz ≤ 65536 → (sizeN (rewr g mv t sz).1.1 : Int) ≤ 65536
  | [], t, sz, h1, h2 => by simp only [rewr]; omega
  | k :: mv, t, sz, h1, h2 => by
    have h3 := sizeN_last g k.toNat t
    have h4 := sizeN_rewr g mv (lastT g k.toNat t).1 (sz + lenOf g k.toNat)
    simp only [rewr]
    split
    · simp only; omega
    · split
      · simp only; omega
      · split
        · simp only; omega
        · exact h4 (by omega) (by omega)
theorem ofD_size {g : GramD} {ws ms : List Int} : (sizeN (ofD g ws ms).1 : Int) ≤ 65536 := by
  have hz : (sizeN zeroT : Int) ≤ 65536 := by simp [zeroT, sizeN, sizeNs]
  unfold ofD
  split
  · exact hz
  rename_i h0
  split
  · exact hz
  split
  · exact hz
  split
  · exact hz
  split
  · obtain ⟨x0, x1, hx0, _, hx1, _⟩ := (good_of (Decidable.not_not.1 h0)).zero
    have hs0 : (sizeN (byT g 0) : Int) = 2 := by rw [sizeN_byT]; simp [lenOf, hx0, hx1]
    exact sizeN_rewr g ms.reverse (byT g 0) 2 (by omega) (by omega)
  · exact hz
theorem ofD_err {g : GramD} {ws ms : List Int} (h : (ofD g ws ms).2 ≠ 0) : (ofD g ws ms).1 = zeroT := by
  unfold ofD at h ⊢
  split at h
  · rename_i q; rw [if_pos q]
  rename_i q; rw [if_neg q]
  split at h
  · rename_i q; rw [if_pos q]
  rename_i q; rw [if_neg q]
  split at h
  · rename_i q; rw [if_pos q]
  rename_i q; rw [if_neg q]
  split at h
  · rename_i q; rw [if_pos q]
  rename_i q; rw [if_neg q]
  split at h
  · simp at h
  · rename_i q; rw [if_neg q]

section
variable {g : GramD} {ws ms : List Int} (c1 : ∀ H, lim G0.cfg (.func 9) [.agg (eGram g)] H = some (.bool true, H)) (q1 : ¬ (100 : Int) < ws.length) (q2 : ¬ (60 : Int) < ms.length)
include c1 q1 q2
theorem f_TreeOf_ok {a b a' b' : Int} {kv kv' : AV} (hkv : kv = .nilS ∨ ∃ e rows, kv = .vsl e rows) (hkv' : kv' = .nilS ∨ ∃ e rows, kv' = .vsl e rows)
    (d1 : ∀ H, lim G0.cfg (.func 25) [.agg (eGram g), .vsl false (eIs ws), .vsl false (eIs ms)] H = some (.tup [.agg [.int .i64 a, .int .i64 b, kv], .int .i64 0], H))
    (d2 : ∀ H, lim G0.cfg (.func 26) [.agg (eGram g), .vsl false (eIs ws), .vsl false (eIs ms)] H = some (.tup [.agg [.int .i64 a', .int .i64 b', kv'], .int .i64 0], H))
    (d3 : ∀ H, lim G0.cfg (.func 24) [.agg [.int .i64 a, .int .i64 b, kv], .agg [.int .i64 a', .int .i64 b', kv']] H = some (.bool true, H)) :
    ∃ h', runFn (lim G0.cfg) 1 A_l20_TreeOf [.agg (eGram g), .vsl false (eIs ws), .vsl false (eIs ms)] [] = some (.bool true, h') := by
  have hk := knows
  rw [R_l20_TreeOf]
  rcases hkv with rfl | ⟨e9, rows, rfl⟩ <;> rcases hkv' with rfl | ⟨e8, rows8, rfl⟩ <;> simp only [Zaa,Zab,Zac,Zad,Zai,Zaj,Zak,Zas,Zay,Zaz,Zba,Zbb,Zbc,Zbe,Zbg,Zbh,Zbi,Zbj,Zbk,Zbl,Zbm,Zbn,Zbo,Zbp,Zbq,Zbr,Zcf,Zcg,Zco,Zcp,Zcr,Zct,Zcu,Zcv,Zcw,Zcx,Zcy,Zcz,List.set_cons_zero,List.set_cons_succ,List.getD_cons_zero,List.getD_cons_succ,Option.bind_some,Option.map_some,Zdi,Zdk,Zdl,Zdq,Zds,Zdz,Zea,Zel,Zeo,decide_true,decide_false,Bool.not_true,List.getElem?_cons_zero,List.getElem?_cons_succ,List.length_cons,List.length_nil,if_true,Nat.reduceAdd,Nat.reduceSub,Nat.reduceLeDiff,eq_self,and_self,true_and,List.length_cons,List.length_nil,List.replicate_succ,List.replicate_zero,List.cons_append,List.nil_append,aload,acells,getArr,part,astore,putCells,List.all_cons,List.all_nil,cellOk,Bool.and_self,List.drop_zero,List.drop_succ_cons,List.take_succ_cons,List.take_zero,List.take_nil,List.cons_append,List.nil_append,List.set_cons_zero,c1,q1,q2,d1,d2,d3,hk,resAll,resVals,resVal,Option.some.injEq,Prod.mk.injEq,true_and,exists_eq']
theorem f_TreeOf_err {a' b' e : Int} {kv kv' : AV} (hkv : kv = .nilS ∨ ∃ e rows, kv = .vsl e rows) (hkv' : kv' = .nilS ∨ ∃ e rows, kv' = .vsl e rows) (q3 : e ≠ 0) (ll : ∀ h : AHeap, alen h .slice kv = some (.int .i64 0))
    (d1 : ∀ H, lim G0.cfg (.func 25) [.agg (eGram g), .vsl false (eIs ws), .vsl false (eIs ms)] H = some (.tup [.agg [.int .i64 0, .int .i64 0, kv], .int .i64 e], H))
    (d2 : ∀ H, lim G0.cfg (.func 26) [.agg (eGram g), .vsl false (eIs ws), .vsl false (eIs ms)] H = some (.tup [.agg [.int .i64 a', .int .i64 b', kv'], .int .i64 e], H)) :
    ∃ h', runFn (lim G0.cfg) 1 A_l20_TreeOf [.agg (eGram g), .vsl false (eIs ws), .vsl false (eIs ms)] [] = some (.bool true, h') := by
  have hk := knows
  rw [R_l20_TreeOf]
  have q3' : decide (e = 0) = false := decide_eq_false q3
  rcases hkv with rfl | ⟨e9, rows, rfl⟩
  · rcases hkv' with rfl | ⟨e8, rows8, rfl⟩ <;> simp only [Zaa,Zab,Zac,Zad,Zai,Zaj,Zak,Zas,Zay,Zaz,Zba,Zbb,Zbc,Zbd,Zbf,Zbg,Zbh,Zbi,Zbj,Zbk,Zbl,Zbm,Zbn,Zbo,Zbp,Zbq,Zbr,Zby,Zcf,Zcg,Zco,Zcp,Zcr,Zct,Zcu,Zcv,Zcw,Zcx,Zcy,Zcz,List.set_cons_zero,List.set_cons_succ,List.getD_cons_zero,List.getD_cons_succ,Option.bind_some,Option.map_some,Zdi,Zdk,Zdl,Zdq,Zds,Zdt,Zdw,Zdy,Zdz,Zea,Zel,Zeo,decide_true,decide_false,Bool.not_true,Bool.not_false,List.getElem?_cons_zero,List.getElem?_cons_succ,List.length_cons,List.length_nil,if_true,Nat.reduceAdd,Nat.reduceSub,Nat.reduceLeDiff,eq_self,and_self,true_and,List.length_cons,List.length_nil,List.replicate_succ,List.replicate_zero,List.cons_append,List.nil_append,aload,acells,getArr,part,astore,putCells,List.all_cons,List.all_nil,cellOk,Bool.and_self,List.drop_zero,List.drop_succ_cons,List.take_succ_cons,List.take_zero,List.take_nil,List.cons_append,List.nil_append,List.set_cons_zero,c1,q1,q2,d1,d2,q3',hk,resAll,resVals,resVal,Option.some.injEq,Prod.mk.injEq,true_and,exists_eq']
  · have hl9 : (rows.length : Int) = 0 := by
      have := ll []
      simp only [Zds,Option.some.injEq,AV.int.injEq,true_and] at this
      exact this
    rcases hkv' with rfl | ⟨e8, rows8, rfl⟩ <;> simp only [Zaa,Zab,Zac,Zad,Zai,Zaj,Zak,Zas,Zay,Zaz,Zba,Zbb,Zbc,Zbd,Zbf,Zbg,Zbh,Zbi,Zbj,Zbk,Zbl,Zbm,Zbn,Zbo,Zbp,Zbq,Zbr,Zby,Zcf,Zcg,Zco,Zcp,Zcr,Zct,Zcu,Zcv,Zcw,Zcx,Zcy,Zcz,List.set_cons_zero,List.set_cons_succ,List.getD_cons_zero,List.getD_cons_succ,Option.bind_some,Option.map_some,Zdi,Zdk,Zdl,Zdq,Zds,Zdw,Zdy,Zdz,Zea,Zel,Zeo,decide_true,decide_false,Bool.not_true,Bool.not_false,List.getElem?_cons_zero,List.getElem?_cons_succ,List.length_cons,List.length_nil,if_true,Nat.reduceAdd,Nat.reduceSub,Nat.reduceLeDiff,eq_self,and_self,true_and,List.length_cons,List.length_nil,List.replicate_succ,List.replicate_zero,List.cons_append,List.nil_append,aload,acells,getArr,part,astore,putCells,List.all_cons,List.all_nil,cellOk,Bool.and_self,List.drop_zero,List.drop_succ_cons,List.take_succ_cons,List.take_zero,List.take_nil,List.cons_append,List.nil_append,List.set_cons_zero,c1,q1,q2,d1,d2,q3',hl9,hk,resAll,resVals,resVal,Option.some.injEq,Prod.mk.injEq,true_and,exists_eq']
end

theorem f_TreeOf (g : GramD) (hg : g.Ok) (ws ms : List Int) (H : AHeap) : lim G0.cfg (.func 5) [.agg (eGram g), .vsl false (eIs ws), .vsl false (eIs ms)] H = some (.bool true, H) := by
  refine lim_flat rfl rfl P_l20_TreeOf 1 (fun h => fz_3 (fz_gram g h) (fz_vsl _ _ _) (fz_vsl _ _ _)) ?_ (fun _ => rfl) H
  obtain ⟨fw, c1⟩ := f_Few g hg
  have hk := knows
  cases fw
  case false =>
    rw [R_l20_TreeOf]
    simp only [Zab,Zac,Zad,Zai,Zaj,Zak,Zam,Zar,Zay,Zaz,Zbd,Zbg,Zbi,Zbj,Zbk,Zbl,Zbn,Zbo,Zbr,Zco,Zcp,Zcr,Zct,Zcu,Zcv,Zcw,Zcy,Zcz,List.set_cons_zero,List.set_cons_succ,List.getD_cons_zero,List.getD_cons_succ,Option.bind_some,Option.map_some,Zdq,Zdz,Zea,Bool.not_false,List.getElem?_cons_zero,List.length_cons,List.length_nil,if_true,Nat.reduceAdd,Nat.reduceSub,Nat.reduceLeDiff,eq_self,true_and,List.length_cons,List.length_nil,List.replicate_succ,List.replicate_zero,List.cons_append,List.nil_append,aload,acells,getArr,part,List.drop_zero,List.take_succ_cons,List.take_nil,List.cons_append,List.nil_append,List.set_cons_zero,c1,hk,resAll,resVals,resVal,Option.some.injEq,Prod.mk.injEq,true_and,exists_eq']
  case true =>
  by_cases q1 : (100 : Int) < ws.length
  case pos =>
    rw [R_l20_TreeOf]
    simp only [Zab,Zac,Zad,Zai,Zaj,Zak,Zam,Zar,Zay,Zaz,Zbc,Zbd,Zbg,Zbh,Zbi,Zbj,Zbk,Zbl,Zbn,Zbo,Zbq,Zbr,Zcg,Zco,Zcp,Zcr,Zct,Zcu,Zcv,Zcw,Zcy,Zcz,List.set_cons_zero,List.set_cons_succ,List.getD_cons_zero,List.getD_cons_succ,Option.bind_some,Option.map_some,Zdi,Zdq,Zds,Zdz,Zea,Zeo,decide_true,Bool.not_true,List.getElem?_cons_zero,List.length_cons,List.length_nil,if_true,Nat.reduceAdd,Nat.reduceSub,Nat.reduceLeDiff,eq_self,true_and,List.length_cons,List.length_nil,List.replicate_succ,List.replicate_zero,List.cons_append,List.nil_append,aload,acells,getArr,part,List.drop_zero,List.take_succ_cons,List.take_nil,List.cons_append,List.nil_append,List.set_cons_zero,c1,q1,hk,resAll,resVals,resVal,Option.some.injEq,Prod.mk.injEq,true_and,exists_eq']
  case neg =>
  by_cases q2 : (60 : Int) < ms.length
  case pos =>
    rw [R_l20_TreeOf]
    simp only [Zab,Zac,Zad,Zai,Zaj,Zak,Zam,Zar,Zay,Zaz,Zbc,Zbh,Zbi,Zbj,Zbk,Zbl,Zbn,Zbo,Zbq,Zbr,Zcg,Zco,Zcp,Zcr,Zct,Zcu,Zcv,Zcw,Zcy,Zcz,List.set_cons_zero,List.set_cons_succ,List.getD_cons_zero,List.getD_cons_succ,Option.bind_some,Option.map_some,Zdi,Zdq,Zds,Zdz,Zea,Zeo,decide_true,decide_false,Bool.not_true,List.getElem?_cons_zero,List.length_cons,List.length_nil,if_true,Nat.reduceAdd,Nat.reduceSub,Nat.reduceLeDiff,eq_self,true_and,List.length_cons,List.length_nil,List.replicate_succ,List.replicate_zero,List.cons_append,List.nil_append,aload,acells,getArr,part,List.drop_zero,List.take_succ_cons,List.take_nil,List.cons_append,List.nil_append,List.set_cons_zero,c1,q1,q2,hk,resAll,resVals,resVal,Option.some.injEq,Prod.mk.injEq,true_and,exists_eq']
  case neg =>
  obtain ⟨c, hE, d1⟩ := f_OfAll (ws := ws) (ms := ms) hg (by omega) (by omega)
  obtain ⟨c', hE', d2⟩ := r_Of (ws := ws) (ms := ms) hg (by omega) (by omega)
  have hsz : (sizeN (ofD g ws ms).1 : Int) ≤ 65536 := ofD_size
  have herr := @ofD_err g ws ms
  have d3 := r_SameN (ofD g ws ms).1 (by omega) c _ c' hE hE'
  rw [sameB_self] at d3
  obtain ⟨kv', rfl, hkv'⟩ := hE'.kv3
  by_cases q3 : (ofD g ws ms).2 = 0
  case pos =>
    obtain ⟨kv, rfl, hkv⟩ := hE.kv3
    rw [q3] at d1 d2
    exact f_TreeOf_ok c1 q1 q2 hkv hkv' d1 d2 d3
  case neg =>
    have hz := herr q3
    rw [hz] at hE
    have hE2 := hE
    obtain ⟨kv, rfl, ll, _⟩ := hE.open
    have hkv : kv = .nilS ∨ ∃ e rows, kv = .vsl e rows := by
      obtain ⟨kv', e, h⟩ := hE2.kv3
      cases e; exact h
    exact f_TreeOf_err c1 q1 q2 hkv hkv' q3 ll d1 d2
end Go.Proofs.Ytkimloceaihplaa.Ai
