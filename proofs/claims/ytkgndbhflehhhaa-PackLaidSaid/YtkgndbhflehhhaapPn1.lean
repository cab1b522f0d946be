/- PackLays: the law. -/
import Derived.Test.YtkgndbhflehhhaapPmw
import Derived.Test.YtkgndbhflehhhaapKp1
namespace Go.Proofs.Ytkgndbhflehhhaa.Ai
open Go Go.Proofs
set_option linter.unusedVariables false
set_option linter.unusedSimpArgs false
set_option maxRecDepth 10000
set_option maxHeartbeats 4000000

theorem layFold_len (own : List (List Int)) (M : Nat) (hM : ∀ r ∈ own, r.length ≤ M) : ∀ (ord : List Int) (s : List Int × List Int × List Int), s.2.1.length = s.2.2.length →
    (ord.foldl (layStep own) s).1.length = s.1.length ∧ (ord.foldl (layStep own) s).2.1.length = (ord.foldl (layStep own) s).2.2.length ∧ (ord.foldl (layStep own) s).2.1.length ≤ s.2.1.length + ord.length * M := by
  intro ord
  induction ord with
  | nil => intro s h; exact ⟨rfl, h, by simp⟩
  | cons x ord ih =>
    intro s h
    rw [List.foldl_cons]
    have hr : (own.getD x.toNat []).length ≤ M := by
      by_cases q : x.toNat < own.length
      · have : own.getD x.toNat [] = own[x.toNat] := by simp [q]
        rw [this]; exact hM _ (List.getElem_mem q)
      · have : own.getD x.toNat [] = [] := by simp [q]
        rw [this]; simp
    have pl := placeD_len (own.getD x.toNat []) s.2 (baseD s.2.2 (own.getD x.toNat [])) (x + 1) h
    have hb := baseD_le s.2.2 (own.getD x.toNat [])
    obtain ⟨h1, h2, h3⟩ := ih (layStep own s x) pl.1
    have l1 : (layStep own s x).1.length = s.1.length := by simp [layStep]
    have l2 : (layStep own s x).2.1.length ≤ s.2.1.length + M := Nat.le_trans pl.2 (Nat.max_le.2 ⟨by omega, by omega⟩)
    have l3 : (x :: ord).length * M = ord.length * M + M := by rw [List.length_cons, Nat.succ_mul]
    exact ⟨h1.trans l1, h2, by omega⟩

theorem f_PackLays {rows : List (List Int)} {v : AV} (hv : LiR rows v) (H : AHeap) : lim G0.cfg (.func 3) [v] H = some (.bool true, H) := by
  refine lim_flat rfl rfl P_l32_PackLays 1 (fun h => fz_1 (hv.fz h 999)) ?_ (fun _ => rfl) H
  have hk := knows
  have c1 := f_fewRows hv
  by_cases few : (fewGo rows 0 : Int) < 600
  case neg =>
    rw [decide_eq_false few] at c1
    rw [R_l32_PackLays]
    simp only [Zab,Zac,Zad,Zai,Zaj,Zak,Zam,Zar,Zay,Zaz,Zbi,Zbk,Zbr,Zcp,Zcq,Zcu,Zcv,Zcw,Zcx,Zcz,Zda,List.set_cons_zero,List.set_cons_succ,List.getD_cons_zero,List.getD_cons_succ,Option.map_some,Zdr,Bool.not_false,List.length_cons,List.length_nil,Nat.reduceAdd,Nat.reduceSub,eq_self,true_and,List.length_cons,List.length_nil,List.replicate_succ,List.replicate_zero,List.cons_append,List.nil_append,c1,hk,resAll,resVals,resVal,Option.some.injEq,Prod.mk.injEq,true_and,exists_eq']
  case pos =>
    rw [decide_eq_true few] at c1
    obtain ⟨h1, h2⟩ := (fewGo_le rows 0).2 (by omega)
    have hn : rows.length ≤ 600 := by omega
    have hmul : rows.length * 600 ≤ 600 * 600 := Nat.mul_le_mul_right 600 hn
    obtain ⟨cs, hc, d1⟩ := f_Lay hv (by omega) 600 h2 (by omega) (by omega)
    obtain ⟨ds, hd, d2⟩ := r_Lay hv 600 h2 (by omega) (by omega) (by omega)
    have dl := foldD_len rows ([], [])
    have hD : rows.foldl dStep ([], []) = distD rows := rfl
    rw [hD] at dl
    simp only [List.length_nil,Nat.zero_add] at dl
    have dm : ∀ r ∈ (distD rows).1, r.length ≤ 600 := fun r hr => by
      rcases foldD_mem rows ([], []) r (by rw [hD]; exact hr) with h | h
      · simp at h
      · exact h2 r h
    obtain ⟨op, _⟩ := orderD_ok (distD rows).1
    have hol : (orderD (distD rows).1).length = (distD rows).1.length := by rw [op.length_eq, iotaI_len]
    obtain ⟨b1, b2, b3⟩ := layFold_len (distD rows).1 600 dm (orderD (distD rows).1) (List.replicate (distD rows).1.length 0, [], []) rfl
    have hmul2 : (orderD (distD rows).1).length * 600 ≤ 600 * 600 := Nat.mul_le_mul_right 600 (by omega)
    simp only [List.length_replicate,List.length_nil,Nat.zero_add] at b1 b3
    have e := r_SameComb hc hd (by show (distD rows).2.length ≤ _; omega) (by show (layD (distD rows).1 (orderD (distD rows).1)).1.length ≤ _; unfold layD; omega) (by show (layD (distD rows).1 (orderD (distD rows).1)).2.1.length ≤ _; unfold layD; omega) (by show (layD (distD rows).1 (orderD (distD rows).1)).2.2.length ≤ _; unfold layD; omega)
    rw [R_l32_PackLays]
    simp only [Zaa,Zab,Zac,Zad,Zai,Zaj,Zak,Zas,Zay,Zaz,Zbb,Zbg,Zbi,Zbj,Zbk,Zbl,Zbr,Zcp,Zcq,Zcu,Zcv,Zcw,Zcx,Zcz,Zda,List.set_cons_zero,List.set_cons_succ,List.getD_cons_zero,List.getD_cons_succ,Option.map_some,Zdr,Bool.not_true,List.length_cons,List.length_nil,Nat.reduceAdd,Nat.reduceSub,eq_self,true_and,List.length_cons,List.length_nil,List.replicate_succ,List.replicate_zero,List.cons_append,List.nil_append,c1,d1,d2,e,hk,resAll,resVals,resVal,Option.some.injEq,Prod.mk.injEq,true_and,exists_eq']
end Go.Proofs.Ytkgndbhflehhhaa.Ai
