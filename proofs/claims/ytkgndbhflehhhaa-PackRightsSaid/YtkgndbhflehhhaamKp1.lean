/- The fixed examples of the pack laws: their parts, by computation. -/
import Derived.Test.YtkgndbhflehhhaamFn
import Derived.Test.YtkgndbhflehhhaamGz
namespace Go.Proofs.Ytkgndbhflehhhaa.Ai
open Go Go.Proofs
open List renaming set_cons_zero → Q0, length_cons → Q1, cons_append → Q2, length_nil → Q3, nil_append → Q4, getElem?_cons_zero → Q5, getElem?_cons_succ → Q6, getD_cons_zero → Q7, getD_cons_succ → Q8, replicate_succ → Q9, replicate_zero → Z0, drop_succ_cons → Z1, take_succ_cons → Z2
set_option linter.unusedVariables false
set_option linter.unusedSimpArgs false
set_option maxRecDepth 1000000
theorem lim_eval {g : Nat} {a : List AV} {y : AV} (k : Nat) (hp : G0.cfg.pu g = true) (ha : ∀ h, mapO (freeze h 1000) a = some (a.map fun x => (x, true))) (hr : pureRes G0.cfg (callT G0.cfg k) k g a = some y) (H : AHeap) : lim G0.cfg (.func g) a H = some (y, H) := by
 have e : callT G0.cfg (k + 1) (.func g) a H = pureCall G0.cfg (callT G0.cfg k) k g a H := by simp only [callT,hp,if_true]
 refine lim_of (k := k + 1) (e.trans ?_)
 have e1 : (a.map fun x => (x, true)).map (·.1) = a := by rw [List.map_map]; exact List.map_id a
 have e2 : (a.map fun x => (x, true)).all (·.2) = true := by simp
 simp only [pureCall,ha H,e1,e2,hr,Bool.true_or,cond_true]
theorem kn_lay3 (H : AHeap) : lim G0.cfg (.func 13) [.vsl true [[.vsl true [[.int .i64 0], [.int .i64 5]]], [.vsl true [[.int .i64 7], [.int .i64 0]]], [.vsl true [[.int .i64 0], [.int .i64 5]]]]] H = some (.agg [.vsl false [[.int .i64 0], [.int .i64 1], [.int .i64 0]], .vsl false [[.int .i64 0], [.int .i64 0]], .vsl false [[.int .i64 7], [.int .i64 5]], .vsl false [[.int .i64 2], [.int .i64 1]]], H) :=
 lim_eval 99 rfl (fun h => fz_1 rfl) (by kernel_rfl) H
theorem kn_num (H : AHeap) : lim G0.cfg (.func 41) [.agg [.vsl true [[.vsl true [[.vsl true []], [.vsl true [[.int .i64 3, .int .i64 0]]]]]], .vsl true [[.vsl true [[.int .i64 (-1)]]]]]] H = some (.tup [.vsl false [[.vsl false [[.int .i64 0], [.int .i64 3]]]], .vsl false [[.vsl false [[.int .i64 0]]]], .bool true], H) :=
 lim_eval 99 rfl (fun h => fz_1 rfl) (by kernel_rfl) H
theorem kn_lay1 (H : AHeap) : lim G0.cfg (.func 13) [.vsl false [[.vsl false [[.int .i64 0], [.int .i64 3]]]]] H = some (.agg [.vsl false [[.int .i64 0]], .vsl false [[.int .i64 0]], .vsl false [[.int .i64 0], [.int .i64 3]], .vsl false [[.int .i64 0], [.int .i64 1]]], H) :=
 lim_eval 99 rfl (fun h => fz_1 rfl) (by kernel_rfl) H
theorem kn_lay2 (H : AHeap) : lim G0.cfg (.func 13) [.vsl false [[.vsl false [[.int .i64 0]]]]] H = some (.agg [.vsl false [[.int .i64 0]], .vsl false [[.int .i64 0]], .nilS, .nilS], H) :=
 lim_eval 99 rfl (fun h => fz_1 rfl) (by kernel_rfl) H
abbrev kpk : List AV := [.int .i64 2, .int .i64 1, .vsl false [[.int .i64 0]], .vsl false [[.int .i64 0]], .vsl false [[.int .i64 0], [.int .i64 3]], .vsl false [[.int .i64 0], [.int .i64 1]], .vsl false [[.int .i64 0]], .vsl false [[.int .i64 0]], .nilS, .nilS]
theorem kn_back (H : AHeap) : lim G0.cfg (.func 22) [.agg kpk] H = some (.tup [.agg [.vsl false [[.vsl false [[.nilS], [.vsl true [[.int .i64 3, .int .i64 0]]]]]], .vsl false [[.vsl false [[.int .i64 (-1)]]]]], .int .i64 0], H) :=
 lim_eval 99 rfl (fun h => fz_1 rfl) (by kernel_rfl) H
theorem kn_i3 (e : Bool) (H : AHeap) : lim G0.cfg (.func 27) [.vsl false [[.int .i64 0], [.int .i64 1], [.int .i64 0]], .vsl e [[.int .i64 0], [.int .i64 1], [.int .i64 0]]] H = some (.bool true, H) :=
 lim_eval 99 rfl (fun h => fz_2 rfl rfl) (by cases e <;> kernel_rfl) H
theorem kn_i2 (e : Bool) (H : AHeap) : lim G0.cfg (.func 27) [.vsl false [[.int .i64 0], [.int .i64 0]], .vsl e [[.int .i64 0], [.int .i64 0]]] H = some (.bool true, H) :=
 lim_eval 99 rfl (fun h => fz_2 rfl rfl) (by cases e <;> kernel_rfl) H
theorem kn_i75 (e : Bool) (H : AHeap) : lim G0.cfg (.func 27) [.vsl false [[.int .i64 7], [.int .i64 5]], .vsl e [[.int .i64 7], [.int .i64 5]]] H = some (.bool true, H) :=
 lim_eval 99 rfl (fun h => fz_2 rfl rfl) (by cases e <;> kernel_rfl) H
theorem kn_i21 (e : Bool) (H : AHeap) : lim G0.cfg (.func 27) [.vsl false [[.int .i64 2], [.int .i64 1]], .vsl e [[.int .i64 2], [.int .i64 1]]] H = some (.bool true, H) :=
 lim_eval 99 rfl (fun h => fz_2 rfl rfl) (by cases e <;> kernel_rfl) H
theorem kn_i03 (e : Bool) (H : AHeap) : lim G0.cfg (.func 27) [.vsl false [[.int .i64 0], [.int .i64 3]], .vsl e [[.int .i64 0], [.int .i64 3]]] H = some (.bool true, H) :=
 lim_eval 99 rfl (fun h => fz_2 rfl rfl) (by cases e <;> kernel_rfl) H
theorem kn_right (H : AHeap) : lim G0.cfg (.func 25) [.agg kpk] H = some (.bool true, H) := by
 refine lim_flat rfl rfl P_pack_Right 1 (fun h => fz_1 rfl) ?_ (fun _ => rfl) H
 have hb := kn_back
 rw [R_pack_Right]
 simp only [Zab,Zac,Zai,Zaj,Zak,Zay,Zaz,Zba,Zbi,Zbk,Zbm,Zbn,Zbo,Zbp,Zbq,Zcf,Zcp,Zcq,Zcs,Zcu,Zcv,Zcw,Zcx,Zcy,Zcz,Zda,Q0,List.set_cons_succ,Q7,Q8,Option.bind_some,Option.map_some,Zdl,Zea,Zeb,Zem,decide_true,Q5,Q6,Q1,Q3,if_true,Nat.reduceAdd,Nat.reduceSub,Nat.reduceLeDiff,Int.reduceNeg,eq_self,and_self,true_and,Q1,Q3,Q9,Z0,Q2,Q4,aload,acells,getArr,part,astore,putCells,List.all_cons,List.all_nil,cellOk,Bool.and_self,List.drop_zero,Z1,Z2,List.take_zero,List.take_nil,Q2,Q4,Q0,hb,resAll,resVals,resVal,Option.some.injEq,Prod.mk.injEq,true_and,exists_eq']
theorem lit2 (h : AHeap) (z a b : AV) (ha : pure1 a = true) (hb : pure1 b = true) (ca : cellsOf a = [a]) (cb : cellsOf b = [b]) : abs0 h false 1 2 [z] [(0, a), (1, b)] = some (.vsl true [[a], [b]], h) := by
 simp [abs0, fillCells, flatParts, putCells, ca, cb, chop, ha, hb]
theorem lit3 (h : AHeap) (z a b c : AV) (ha : pure1 a = true) (hb : pure1 b = true) (hc : pure1 c = true) (ca : cellsOf a = [a]) (cb : cellsOf b = [b]) (cc : cellsOf c = [c]) : abs0 h false 1 3 [z] [(0, a), (1, b), (2, c)] = some (.vsl true [[a], [b], [c]], h) := by
 simp [abs0, fillCells, flatParts, putCells, ca, cb, cc, chop, ha, hb, hc]
theorem lit1 (h : AHeap) (z a : AV) (ha : pure1 a = true) (ca : cellsOf a = [a]) : abs0 h false 1 1 [z] [(0, a)] = some (.vsl true [[a]], h) := by
 simp [abs0, fillCells, flatParts, putCells, ca, chop, ha]
theorem lit1a (h : AHeap) (z y a b : AV) (ha : pure1 a = true) (hb : pure1 b = true) : abs0 h false 2 1 [z, y] [(0, .agg [a, b])] = some (.vsl true [[a, b]], h) := by
 simp [abs0, fillCells, flatParts, putCells, cellsOf, chop, ha, hb]
theorem lit0a (h : AHeap) (z y : AV) : abs0 h false 2 0 [z, y] [] = some (.vsl true [], h) := by
 simp [abs0, fillCells, flatParts, chop]
theorem ix0 (h : AHeap) (e : Bool) (c : AV) (r : List (List AV)) : aindexAddr h 1 (.vsl e ([c] :: r)) (.int .i64 0) = some (.vptr [c] 0) := rfl
theorem n1i : ((1 : Nat) : Int) = 1 := rfl
theorem n2i : ((2 : Nat) : Int) = 2 := rfl
theorem knows (H : AHeap) : lim G0.cfg (.func 11) [] H = some (.bool true, H) := by
 refine lim_flat rfl rfl P_l32_knows 1 (fun h => rfl) ?_ (fun _ => rfl) H
 have of : ∀ h : AHeap, ∃ h', lim G0.cfg (.func 19) [.agg [.vsl true [[.vsl true [[.vsl true []], [.vsl true [[.int .i64 3, .int .i64 0]]]]]], .vsl true [[.vsl true [[.int .i64 (-1)]]]]]] h = some (.tup [.agg kpk, .int .i64 0], h ++ h') := by
  intro h
  refine ⟨[.arr 0 2 true [[.vsl true [[.vsl true [[.vsl true []], [.vsl true [[.int .i64 3, .int .i64 0]]]]]], .vsl true [[.vsl true [[.int .i64 (-1)]]]]]], .arr 0 10 true [kpk], .arr 0 10 true [kpk]], lim_func rfl P_pack_Of 1 ?_⟩
  have a1 := kn_num
  have a2 := kn_lay1
  have a3 := kn_lay2
  rw [R_pack_Of]
  simp only [Zaa,Zab,Zac,Zad,Zai,Zaj,Zak,Zas,Zay,Zaz,Zba,Zbc,Zbh,Zbi,Zbj,Zbk,Zbl,Zbm,Zbn,Zbo,Zbp,Zbq,Zbr,Zby,Zcb,Zcf,Zcg,Zcm,Zcp,Zcq,Zcs,Zcu,Zcv,Zcw,Zcx,Zcy,Zcz,Zda,Q0,List.set_cons_succ,Q7,Q8,Option.bind_some,Option.map_some,Zdj,Zdr,Zdt,Zdu,Zdx,Zdz,Zea,Zeb,Zec,Zem,decide_false,Bool.not_true,Q5,Q6,Q1,Q3,if_true,Nat.reduceAdd,Nat.reduceSub,Nat.reduceLeDiff,Int.reduceNeg,Int.reduceLT,eq_self,and_self,Q1,Q3,Q9,Z0,Q2,Q4,aload,acells,getArr,part,astore,putCells,List.all_cons,List.all_nil,cellOk,Bool.and_self,List.drop_zero,Z1,Z2,List.take_zero,List.take_nil,Q2,Q4,Q0,a1,a2,a3,hap_get0,hap_get,hap_set,List.append_assoc,List.length_append,ix0,n1i,n2i,evp,afill,fillCells,Nat.reduceLT,resAll,resVals,resVal]
 obtain ⟨h', hof⟩ := of [.arr 0 4 true [[.vsl false [[.int .i64 0], [.int .i64 1], [.int .i64 0]], .vsl false [[.int .i64 0], [.int .i64 0]], .vsl false [[.int .i64 7], [.int .i64 5]], .vsl false [[.int .i64 2], [.int .i64 1]]]], .arr 0 2 true [[.vsl true [[.vsl true [[.vsl true []], [.vsl true [[.int .i64 3, .int .i64 0]]]]]], .vsl true [[.vsl true [[.int .i64 (-1)]]]]]]]
 have b1 := kn_lay3
 have b2 := kn_back
 have b3 := kn_right
 have c1 := kn_i3 true
 have c2 := kn_i2 true
 have c3 := kn_i75 true
 have c4 := kn_i21 true
 have c5 := kn_i03 true
 have q0 := fun h : AHeap => lit2 h (.int .i64 0) (.int .i64 0) (.int .i64 5) rfl rfl rfl rfl
 have q1 := fun h : AHeap => lit2 h (.int .i64 0) (.int .i64 7) (.int .i64 0) rfl rfl rfl rfl
 have q2 := fun h : AHeap => lit3 h .nilS (.vsl true [[.int .i64 0], [.int .i64 5]]) (.vsl true [[.int .i64 7], [.int .i64 0]]) (.vsl true [[.int .i64 0], [.int .i64 5]]) rfl rfl rfl rfl rfl rfl
 have q3 := fun h : AHeap => lit0a h (.int .i64 0) (.int .i64 0)
 have q4 := fun h : AHeap => lit1a h (.int .i64 0) (.int .i64 0) (.int .i64 3) (.int .i64 0) rfl rfl
 have q5 := fun h : AHeap => lit2 h .nilS (.vsl true []) (.vsl true [[.int .i64 3, .int .i64 0]]) rfl rfl rfl rfl
 have q6 := fun h : AHeap => lit1 h .nilS (.vsl true [[.vsl true []], [.vsl true [[.int .i64 3, .int .i64 0]]]]) rfl rfl
 have q7 := fun h : AHeap => lit1 h (.int .i64 0) (.int .i64 (-1)) rfl rfl
 have q8 := fun h : AHeap => lit1 h .nilS (.vsl true [[.int .i64 (-1)]]) rfl rfl
 have q9 := fun h : AHeap => lit3 h (.int .i64 0) (.int .i64 0) (.int .i64 1) (.int .i64 0) rfl rfl rfl rfl rfl rfl
 have q10 := fun h : AHeap => lit2 h (.int .i64 0) (.int .i64 0) (.int .i64 0) rfl rfl rfl rfl
 have q11 := fun h : AHeap => lit2 h (.int .i64 0) (.int .i64 7) (.int .i64 5) rfl rfl rfl rfl
 have q12 := fun h : AHeap => lit2 h (.int .i64 0) (.int .i64 2) (.int .i64 1) rfl rfl rfl rfl
 have q13 := fun h : AHeap => lit2 h (.int .i64 0) (.int .i64 0) (.int .i64 3) rfl rfl rfl rfl
 rw [R_l32_knows]
 simp only [Zab,Zac,Zai,Zaj,Zak,Zay,Zaz,Zba,Zbb,Zbg,Zbi,Zbj,Zbk,Zbl,Zbm,Zbo,Zbp,Zbq,Zby,Zcf,Zcg,Zcm,Zcn,Zcp,Zcq,Zcu,Zcv,Zcw,Zcx,Zcy,Zcz,Zda,Q0,List.set_cons_succ,Q7,Q8,Option.bind_some,Option.map_some,Zdl,Zdt,Zdx,Zdz,Zea,Zeb,Zec,Zef,Zem,decide_true,Q5,Q6,Q1,Q3,if_true,Nat.reduceAdd,Nat.reduceSub,Nat.reduceLeDiff,Int.reduceNeg,eq_self,and_self,true_and,Q1,Q3,Q9,Z0,Q2,Q4,aload,acells,getArr,part,astore,putCells,List.all_cons,List.all_nil,cellOk,Bool.and_self,List.drop_zero,Z1,Z2,List.take_zero,List.take_nil,Q2,Q4,Q0,ev2,q0,q1,q2,q3,q4,q5,q6,q7,q8,q9,q10,q11,q12,q13,n1i,b1,hof,b2,b3,c1,c2,c3,c4,c5,evp,afill,fillCells,Nat.reduceLT,hap_get0,hap_get,hap_set0,hap_set,List.append_assoc,List.length_append,resAll,resVals,resVal,Option.some.injEq,Prod.mk.injEq,true_and,exists_eq']
end Go.Proofs.Ytkgndbhflehhhaa.Ai
