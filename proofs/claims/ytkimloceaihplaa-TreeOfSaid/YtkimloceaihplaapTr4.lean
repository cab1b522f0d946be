/- Trees: size, yield, reductions by the iterator. -/
import Derived.Test.YtkimloceaihplaapTr3
namespace Go.Proofs.Ytkimloceaihplaa.Ai
open Go Go.Proofs
set_option linter.unusedVariables false
set_option linter.unusedSimpArgs false
set_option maxRecDepth 10000
set_option maxHeartbeats 4000000

theorem get_set_ne {α : Type} {h : List α} {i j : Nat} {x y : α} (hj : h[j]? = some x) (hij : i ≠ j) : (h.set i y)[j]? = some x := by rw [List.getElem?_set_ne hij]; exact hj
theorem get_set_eq {α : Type} {h : List α} {i : Nat} {x y : α} (hi : h[i]? = some x) : (h.set i y)[i]? = some y := List.getElem?_set_self (List.getElem?_eq_some_iff.1 hi).1

/-! ### Size -/
abbrev TSize : List AV := [.junk,.junk,.junk, .ptr 1 0 0 0, .junk, .fn (.func 72) [] [.ptr 2 0 0 0], .junk,.junk,.junk,.junk]
def InvSize (n : Nat) (h : AHeap) : Prop := h[1]? = some (.arr 0 1 true [[.int .i64 n]]) ∧ h[3]? = some (.loop .ready none TSize [6] RA_tree_Size_0 RB_tree_Size_0)

theorem yld_Size : Yld 1000000 id 3 InvSize (fun _ _ => False) fun n _ => (n + 1, true) where
  app := fun x h o hI => ⟨get_app hI.1 _, get_app hI.2 _⟩
  cs := fun x t => Nat.le_refl _
  y := fun n h t ht hn hI => by
    obtain ⟨h1, h3⟩ := hI
    simp only [id] at hn
    have hw := w64s (n := n) (by omega)
    have g1 := get_set_ne (i := 3) (y := AObj.loop .busy none TSize [6] RA_tree_Size_0 RB_tree_Size_0) h1 (by omega)
    have g3 := get_set_eq (y := AObj.loop .busy none TSize [6] RA_tree_Size_0 RB_tree_Size_0) h3
    have a1 : evalCode (lim G0.cfg) 1 RA_tree_Size_0 ⟨setAll TSize [6] [.agg (cT t)], h⟩ = some (.normal, ⟨[.junk,.junk,.junk, .ptr 1 0 0 0, .junk,.junk,.junk,.junk,.junk,.junk], h⟩) := by
      rw [eval_e, ERA_tree_Size_0]
      simp only [setAll,Zaa,Zac,Zag,Zaj,Zak,Zax,Zda,Zdb,Zdc,List.set_cons_zero,List.set_cons_succ,eq_self]
    have a2 : evalCode (lim G0.cfg) 1 RB_tree_Size_0 ⟨[.junk,.junk,.junk, .ptr 1 0 0 0, .junk,.junk,.junk,.junk,.junk,.junk], h.set 3 (.loop .busy none TSize [6] RA_tree_Size_0 RB_tree_Size_0)⟩ = some (.normal, ⟨[.junk,.junk,.junk, .ptr 1 0 0 0, .junk,.junk,.junk,.junk,.junk,.junk], (h.set 3 (.loop .busy none TSize [6] RA_tree_Size_0 RB_tree_Size_0)).set 1 (.arr 0 1 true [[.int .i64 (n + 1 : Nat)]])⟩) := by
      rw [eval_e, ERB_tree_Size_0]
      simp only [Zab,Zac,Zae,Zag,Zaj,Zak,Zan,Zax,Zay,Zba,Zbi,Zbo,Zbp,Zbq,Zcu,Zcv,Zcw,Zcx,Zda,Zdb,Zdc,List.set_cons_zero,List.set_cons_succ,List.getD_cons_zero,List.getD_cons_succ,Option.bind_some,Zdd,Zdy,Zeb,List.getElem?_cons_zero,List.length_cons,List.length_nil,if_true,Nat.reduceAdd,Nat.reduceLeDiff,eq_self,and_self,aload,acells,getArr,part,astore,putCells,List.all_cons,List.all_nil,cellOk,Bool.and_self,List.drop_zero,List.drop_succ_cons,List.take_succ_cons,List.take_zero,List.take_nil,List.cons_append,List.nil_append,List.set_cons_zero,g1,hw]
    refine ⟨_, yield_run h3 rfl a1 h3 a2 (get_set_ne g3 (by omega)), ?_, ?_⟩
    · refine ((Fr3.set h3 (fun _ e => by cases e) _).trans (Fr3.set g1 (fun _ e => by cases e) _)).trans (Fr3.set (get_set_ne g3 (by omega)) (fun _ e => by cases e) _)
    · exact ⟨get_set_ne (get_set_eq g1) (by omega), get_set_eq (get_set_ne g3 (by omega))⟩

theorem run_Size (n : Nat) (ts : List T) : runP (fun (n : Nat) (_ : T) => (n + 1, true)) n ts = (n + ts.length, true) := by
  induction ts generalizing n with
  | nil => rfl
  | cons t ts ih => simp only [runP,if_true,ih,List.length_cons]; congr 1; omega

theorem f_Size (t : T) (ht : okT t) (hs : sizeN t ≤ 1000000) (H : AHeap) : lim G0.cfg (.func 14) [.agg (cT t)] H = some (.int .i64 (sizeN t), H) := by
  refine lim_flat rfl rfl P_tree_Size 1 (fun h => fz_1 (fz_tree t h)) ?_ (fun _ => rfl) H
  have hct := cT_len t
  have htk : List.take 3 (cT t) = cT t := List.take_of_length_le (Nat.le_of_eq hct)
  obtain ⟨h', e, k1, k2⟩ := f_nodesIt_1 yld_Size t ht 0 [.arr 0 3 true [cT t], .arr 0 1 true [[.int .i64 0]], .arr 0 3 true [cT t], .loop .ready none TSize [6] RA_tree_Size_0 RB_tree_Size_0] (by simp; omega) ⟨rfl, rfl⟩ 2 rfl
  rw [run_Size, post_len] at k2
  simp only [if_true,Nat.zero_add] at k2
  have er := fun (F : Out → St → Option (AV × AHeap)) (fs : List Fr) => e_range (n := 1) (F := F) (fs := fs) (f := .t 5) (ps := [6]) (asg := RA_tree_Size_0) (body := RB_tree_Size_0) (t := TSize) (h := [.arr 0 3 true [cT t], .arr 0 1 true [[.int .i64 0]], .arr 0 3 true [cT t]]) (g := 72) (first := []) (caps := [.ptr 2 0 0 0]) rfl e k2.2 (by simp)
  have g1 := get_set_ne (i := 3) (y := AObj.loop .exhausted none TSize [6] RA_tree_Size_0 RB_tree_Size_0) k2.1 (by omega)
  have ni := f_nodesIt t [.arr 0 3 true [cT t], .arr 0 1 true [[.int .i64 0]]]
  rw [R_tree_Size]
  simp only [Zab,Zac,Zae,Zag,Zai,Zaj,Zak,Zan,Zay,Zaz,Zba,Zbi,Zbk,Zbm,Zbn,Zbo,Zbp,Zco,Zcp,Zcr,Zct,Zcu,Zcv,Zcw,Zcx,Zcy,Zcz,Zda,Zdb,Zdc,List.set_cons_zero,List.set_cons_succ,List.getD_cons_zero,List.getD_cons_succ,Option.bind_some,Option.map_some,Zdy,Zdz,Zea,Zeb,List.getElem?_cons_zero,List.getElem?_cons_succ,List.length_cons,List.length_nil,if_true,Nat.reduceAdd,Nat.reduceSub,Nat.reduceLeDiff,eq_self,and_self,true_and,List.length_cons,List.length_nil,List.replicate_succ,List.replicate_zero,List.cons_append,List.nil_append,aload,acells,getArr,part,astore,putCells,List.all_cons,List.all_nil,cellOk,Bool.and_self,List.drop_zero,List.drop_succ_cons,List.take_succ_cons,List.take_zero,List.take_nil,List.cons_append,List.nil_append,List.set_cons_zero,hct,htk,ni,er,Option.getD_none,g1,resAll,resVals,resVal,Option.some.injEq,Prod.mk.injEq,true_and,exists_eq']
end Go.Proofs.Ytkimloceaihplaa.Ai
