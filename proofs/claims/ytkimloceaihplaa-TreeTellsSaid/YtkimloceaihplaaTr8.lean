/- Trees: the program's check of a tree. -/
import Derived.Test.YtkimloceaihplaaTr7
namespace Go.Proofs.Ytkimloceaihplaa.Ai
open Go Go.Proofs
set_option linter.unusedVariables false
set_option linter.unusedSimpArgs false
set_option maxRecDepth 10000
set_option maxHeartbeats 4000000

abbrev TRight : List AV := [.junk,.junk, .ptr 0 0 0 0, .junk, .ptr 2 0 0 0, .ptr 3 0 0 0, .junk,.junk,.junk,.junk,.junk, .fn (.func 72) [] [.ptr 4 0 0 0], AV.un, .junk,.junk,.junk,.junk,.junk,.junk,.junk,.junk,.junk,.junk]
def InvRight (g : GramD) (n : Nat) (h : AHeap) : Prop := h[0]? = some (.arr 0 5 true [eGram g]) ∧ h[2]? = some (.arr 0 1 true [[.bool false]]) ∧ h[3]? = some (.arr 0 1 true [[.int .i64 n]]) ∧ h[5]? = some (.loop .ready none TRight [12] RA_tree_Right_0 RB_tree_Right_0)
def StopRight (n : Nat) (h : AHeap) : Prop := h[2]? = some (.arr 0 1 true [[.bool false]]) ∧ h[5]? = some (.loop .done (some .ret) TRight [12] RA_tree_Right_0 RB_tree_Right_0)

theorem yld_Right (g : GramD) (hg : g.Ok) : Yld 65536 id 5 (InvRight g) StopRight fun n t => (n + 1, fitsB g t) where
  app := fun x h o hI => ⟨get_app hI.1 _, get_app hI.2.1 _, get_app hI.2.2.1 _, get_app hI.2.2.2 _⟩
  cs := fun x t => Nat.le_refl _
  y := fun n h t ht hn hI => by
    obtain ⟨h0, h2, h3, h5⟩ := hI
    simp only [id] at hn
    have hl5 := get_len h5
    have hk := cT_eq t
    have hw := w64s (n := n) (by omega)
    have hlt : ¬ ((65536 : Int) < ((n + 1 : Nat) : Int)) := by omega
    obtain ⟨box, hbox⟩ : ∃ box : AObj, box = .arr 0 3 true [[.int .i64 t.sym, .int .i64 t.rule, .vsl false (t.kids.map cT)]] := ⟨_, rfl⟩
    have hbx : (h ++ [box])[h.length]? = some box := get_new h box
    obtain ⟨busy, hbusy⟩ : ∃ o : AObj, o = .loop .busy none TRight [12] RA_tree_Right_0 RB_tree_Right_0 := ⟨_, rfl⟩
    have h5a : (h ++ [box])[5]? = some (.loop .ready none TRight [12] RA_tree_Right_0 RB_tree_Right_0) := get_app h5 _
    have b0 : ((h ++ [box]).set 5 busy)[0]? = some (.arr 0 5 true [eGram g]) := get_set_ne (get_app h0 _) (by omega)
    have b2 : ((h ++ [box]).set 5 busy)[2]? = some (.arr 0 1 true [[.bool false]]) := get_set_ne (get_app h2 _) (by omega)
    have b3 : ((h ++ [box]).set 5 busy)[3]? = some (.arr 0 1 true [[.int .i64 n]]) := get_set_ne (get_app h3 _) (by omega)
    have b5 : ((h ++ [box]).set 5 busy)[5]? = some busy := get_set_eq h5a
    have bb : ((h ++ [box]).set 5 busy)[h.length]? = some box := get_set_ne hbx (by omega)
    have hfr : Fr3 h ((h ++ [box]).set 5 busy) := (Fr3.app h _).trans (Fr3.set h5a (fun _ e => by cases e) _)
    generalize hB : (h ++ [box]).set 5 busy = hb at *
    have a1 : evalCode (lim G0.cfg) 1 RA_tree_Right_0 ⟨setAll TRight [12] [.agg (cT t)], h⟩ = some (.normal, ⟨[.junk,.junk, .ptr 0 0 0 0, .junk, .ptr 2 0 0 0, .ptr 3 0 0 0, .ptr h.length 0 0 0, .junk,.junk,.junk,.junk,.junk, .agg (cT t), .junk,.junk,.junk,.junk,.junk,.junk,.junk,.junk,.junk,.junk], h ++ [box]⟩) := by
      rw [eval_e, ERA_tree_Right_0, hbox, hk]
      simp only [setAll,Zaa,Zab,Zac,Zad,Zae,Zaf,Zag,Zah,Zai,Zaj,Zak,Zal,Zam,Zan,Zao,Zap,Zaq,Zar,Zas,Zat,Zau,Zav,Zaw,Zax,Zay,Zaz,Zba,Zbb,Zbc,Zbd,Zbe,Zbf,Zbg,Zbh,Zbi,Zbj,Zbk,Zbl,Zbm,Zbn,Zbo,Zbp,Zbq,Zbr,Zbs,Zbt,Zbu,Zbv,Zbw,Zbx,Zby,Zbz,Zca,Zcb,Zcc,Zcd,Zce,Zcf,Zcg,Zch,Zci,Zcj,Zck,Zcl,Zcm,Zcn,Zco,Zcp,Zcq,Zcr,Zcs,Zct,Zcu,Zcv,Zcw,Zcx,Zcy,Zcz,Zda,Zdb,Zdc,List.set_cons_zero,List.set_cons_succ,List.getD_cons_zero,List.getD_cons_succ,Option.elim_some,Option.bind_some,Option.map_some,Nat.reduceBEq,Zdd,Zde,Zdf,Zdg,Zdh,Zdi,Zdj,Zdk,Zdl,Zdm,Zdn,Zdo,Zdp,Zdq,Zdr,Zds,Zdt,Zdu,Zdv,Zdw,Zdx,Zdy,Zdz,Zea,Zeb,Zec,Zed,Zee,Zef,Zeg,Zeh,Zei,Zej,Zek,Zel,Zem,Zen,Zeo,Zep,decide_true,decide_false,Bool.not_true,Bool.not_false,List.getElem?_cons_zero,List.getElem?_cons_succ,List.length_cons,List.length_nil,if_true,if_false,reduceIte,Nat.reduceAdd,Nat.reduceSub,Nat.reduceLeDiff,Nat.reduceEqDiff,Int.reduceNeg,Int.reduceLT,Int.reduceLE,Int.reduceEq,eq_self,and_self,and_true,true_and,and_false,false_and,not_true_eq_false,not_false_eq_true,cond_true,cond_false,List.length_map,aload,acells,getArr,part,eI,eS,astore,putCells,get_new,set_new,List.all_cons,List.all_nil,cellOk,Bool.and_self,List.drop_zero,List.drop_succ_cons,List.take_succ_cons,List.take_zero,List.take_nil,List.cons_append,List.nil_append,List.set_cons_zero]
    -- the count goes up
    have c0 : (hb.set 3 (.arr 0 1 true [[.int .i64 (n + 1 : Nat)]]))[0]? = some (.arr 0 5 true [eGram g]) := get_set_ne b0 (by omega)
    have c2 : (hb.set 3 (.arr 0 1 true [[.int .i64 (n + 1 : Nat)]]))[2]? = some (.arr 0 1 true [[.bool false]]) := get_set_ne b2 (by omega)
    have c3 : (hb.set 3 (.arr 0 1 true [[.int .i64 (n + 1 : Nat)]]))[3]? = some (.arr 0 1 true [[.int .i64 (n + 1 : Nat)]]) := get_set_eq b3
    have c5 : (hb.set 3 (.arr 0 1 true [[.int .i64 (n + 1 : Nat)]]))[5]? = some busy := get_set_ne b5 (by omega)
    have cb : (hb.set 3 (.arr 0 1 true [[.int .i64 (n + 1 : Nat)]]))[h.length]? = some box := get_set_ne bb (by omega)
    have hfr2 : Fr3 h (hb.set 3 (.arr 0 1 true [[.int .i64 (n + 1 : Nat)]])) := hfr.trans (Fr3.set b3 (fun _ e => by cases e) _)
    have hfit := f_fits g hg t ht
    rw [hbox] at cb
    cases q : fitsB g t
    case true =>
      have a2 : evalCode (lim G0.cfg) 1 RB_tree_Right_0 ⟨[.junk,.junk, .ptr 0 0 0 0, .junk, .ptr 2 0 0 0, .ptr 3 0 0 0, .ptr h.length 0 0 0, .junk,.junk,.junk,.junk,.junk, .agg (cT t), .junk,.junk,.junk,.junk,.junk,.junk,.junk,.junk,.junk,.junk], hb⟩ = some (.normal, ⟨[.junk,.junk, .ptr 0 0 0 0, .junk, .ptr 2 0 0 0, .ptr 3 0 0 0, .junk,.junk,.junk,.junk,.junk,.junk,.junk,.junk,.junk,.junk,.junk,.junk,.junk,.junk,.junk,.junk,.junk], hb.set 3 (.arr 0 1 true [[.int .i64 (n + 1 : Nat)]])⟩) := by
        rw [eval_e, ERB_tree_Right_0]
        rw [q, hk] at hfit
        simp only [Zaa,Zab,Zac,Zad,Zae,Zaf,Zag,Zah,Zai,Zaj,Zak,Zal,Zam,Zan,Zao,Zap,Zaq,Zar,Zas,Zat,Zau,Zav,Zaw,Zax,Zay,Zaz,Zba,Zbb,Zbc,Zbd,Zbe,Zbf,Zbg,Zbh,Zbi,Zbj,Zbk,Zbl,Zbm,Zbn,Zbo,Zbp,Zbq,Zbr,Zbs,Zbt,Zbu,Zbv,Zbw,Zbx,Zby,Zbz,Zca,Zcb,Zcc,Zcd,Zce,Zcf,Zcg,Zch,Zci,Zcj,Zck,Zcl,Zcm,Zcn,Zco,Zcp,Zcq,Zcr,Zcs,Zct,Zcu,Zcv,Zcw,Zcx,Zcy,Zcz,Zda,Zdb,Zdc,List.set_cons_zero,List.set_cons_succ,List.getD_cons_zero,List.getD_cons_succ,Option.elim_some,Option.bind_some,Option.map_some,Nat.reduceBEq,Zdd,Zde,Zdf,Zdg,Zdh,Zdi,Zdj,Zdk,Zdl,Zdm,Zdn,Zdo,Zdp,Zdq,Zdr,Zds,Zdt,Zdu,Zdv,Zdw,Zdx,Zdy,Zdz,Zea,Zeb,Zec,Zed,Zee,Zef,Zeg,Zeh,Zei,Zej,Zek,Zel,Zem,Zen,Zeo,Zep,decide_true,decide_false,Bool.not_true,Bool.not_false,List.getElem?_cons_zero,List.getElem?_cons_succ,List.length_cons,List.length_nil,if_true,if_false,reduceIte,Nat.reduceAdd,Nat.reduceSub,Nat.reduceLeDiff,Nat.reduceEqDiff,Int.reduceNeg,Int.reduceLT,Int.reduceLE,Int.reduceEq,eq_self,and_self,and_true,true_and,and_false,false_and,not_true_eq_false,not_false_eq_true,cond_true,cond_false,List.length_map,aload,acells,getArr,part,eI,eS,astore,putCells,get_new,set_new,List.all_cons,List.all_nil,cellOk,Bool.and_self,List.drop_zero,List.drop_succ_cons,List.take_succ_cons,List.take_zero,List.take_nil,List.cons_append,List.nil_append,List.set_cons_zero,b3,hw,c3,hlt,c0,cb,hfit]
      rw [← hB, hbusy] at a2
      rw [← hB, hbusy] at c0 c2 c3 c5 hfr2
      refine ⟨_, yield_run h5 rfl a1 h5a a2 c5, hfr2.trans (Fr3.set c5 (fun _ e => by cases e) _), ?_⟩
      exact ⟨get_set_ne c0 (by omega), get_set_ne c2 (by omega), get_set_ne c3 (by omega), get_set_eq c5⟩
    case false =>
      have a2 : evalCode (lim G0.cfg) 1 RB_tree_Right_0 ⟨[.junk,.junk, .ptr 0 0 0 0, .junk, .ptr 2 0 0 0, .ptr 3 0 0 0, .ptr h.length 0 0 0, .junk,.junk,.junk,.junk,.junk, .agg (cT t), .junk,.junk,.junk,.junk,.junk,.junk,.junk,.junk,.junk,.junk], hb⟩ = some (.ret, ⟨[.junk,.junk,.junk,.junk, .ptr 2 0 0 0, .junk,.junk,.junk,.junk,.junk,.junk,.junk,.junk,.junk,.junk,.junk,.junk,.junk,.junk,.junk,.junk,.junk,.junk], (hb.set 3 (.arr 0 1 true [[.int .i64 (n + 1 : Nat)]])).set 2 (.arr 0 1 true [[.bool false]])⟩) := by
        rw [eval_e, ERB_tree_Right_0]
        rw [q, hk] at hfit
        simp only [Zaa,Zab,Zac,Zad,Zae,Zaf,Zag,Zah,Zai,Zaj,Zak,Zal,Zam,Zan,Zao,Zap,Zaq,Zar,Zas,Zat,Zau,Zav,Zaw,Zax,Zay,Zaz,Zba,Zbb,Zbc,Zbd,Zbe,Zbf,Zbg,Zbh,Zbi,Zbj,Zbk,Zbl,Zbm,Zbn,Zbo,Zbp,Zbq,Zbr,Zbs,Zbt,Zbu,Zbv,Zbw,Zbx,Zby,Zbz,Zca,Zcb,Zcc,Zcd,Zce,Zcf,Zcg,Zch,Zci,Zcj,Zck,Zcl,Zcm,Zcn,Zco,Zcp,Zcq,Zcr,Zcs,Zct,Zcu,Zcv,Zcw,Zcx,Zcy,Zcz,Zda,Zdb,Zdc,List.set_cons_zero,List.set_cons_succ,List.getD_cons_zero,List.getD_cons_succ,Option.elim_some,Option.bind_some,Option.map_some,Nat.reduceBEq,Zdd,Zde,Zdf,Zdg,Zdh,Zdi,Zdj,Zdk,Zdl,Zdm,Zdn,Zdo,Zdp,Zdq,Zdr,Zds,Zdt,Zdu,Zdv,Zdw,Zdx,Zdy,Zdz,Zea,Zeb,Zec,Zed,Zee,Zef,Zeg,Zeh,Zei,Zej,Zek,Zel,Zem,Zen,Zeo,Zep,decide_true,decide_false,Bool.not_true,Bool.not_false,List.getElem?_cons_zero,List.getElem?_cons_succ,List.length_cons,List.length_nil,if_true,if_false,reduceIte,Nat.reduceAdd,Nat.reduceSub,Nat.reduceLeDiff,Nat.reduceEqDiff,Int.reduceNeg,Int.reduceLT,Int.reduceLE,Int.reduceEq,eq_self,and_self,and_true,true_and,and_false,false_and,not_true_eq_false,not_false_eq_true,cond_true,cond_false,List.length_map,aload,acells,getArr,part,eI,eS,astore,putCells,get_new,set_new,List.all_cons,List.all_nil,cellOk,Bool.and_self,List.drop_zero,List.drop_succ_cons,List.take_succ_cons,List.take_zero,List.take_nil,List.cons_append,List.nil_append,List.set_cons_zero,b3,hw,c3,hlt,c0,c2,cb,hfit]
      rw [← hB, hbusy] at a2
      rw [← hB, hbusy] at c2 c5 hfr2
      have d5 := get_set_ne (i := 2) (y := AObj.arr 0 1 true [[.bool false]]) c5 (by omega)
      have d2 := get_set_eq (y := AObj.arr 0 1 true [[.bool false]]) c2
      refine ⟨_, yield_run h5 rfl a1 h5a a2 d5, (hfr2.trans (Fr3.set c2 (fun _ e => by cases e) _)).trans (Fr3.set d5 (fun _ e => by cases e) _), ?_⟩
      exact ⟨get_set_ne d2 (by omega), get_set_eq d5⟩

theorem run_Right (g : GramD) : ∀ (ts : List T) (n : Nat), (runP (fun (n : Nat) (t : T) => (n + 1, fitsB g t)) n ts).2 = ts.all (fitsB g)
  | [], n => rfl
  | t :: ts, n => by
    simp only [runP,List.all_cons]
    cases h : fitsB g t
    · simp
    · simpa using run_Right g ts (n + 1)

theorem f_tRight (g : GramD) (hg : g.Ok) (t : T) (ht : okT t) (hN : sizeN t ≤ 65536) (H : AHeap) : lim G0.cfg (.func 12) [.agg (eGram g), .agg (cT t)] H = some (.bool (treeOk g t), H) := by
  refine lim_flat rfl rfl P_tree_Right 1 (fun h => fz_2 (fz_gram g h) (fz_tree t h)) ?_ (fun _ => rfl) H
  have hct := cT_len t
  have htk : List.take 3 (cT t) = cT t := List.take_of_length_le (Nat.le_of_eq hct)
  have c1 := f_Right g hg
  unfold treeOk
  by_cases q1 : gramErr g = 0
  case neg =>
    rw [R_tree_Right]
    simp only [Zaa,Zab,Zac,Zad,Zae,Zaf,Zag,Zah,Zai,Zaj,Zak,Zal,Zam,Zan,Zao,Zap,Zaq,Zar,Zas,Zat,Zau,Zav,Zaw,Zax,Zay,Zaz,Zba,Zbb,Zbc,Zbd,Zbe,Zbf,Zbg,Zbh,Zbi,Zbj,Zbk,Zbl,Zbm,Zbn,Zbo,Zbp,Zbq,Zbr,Zbs,Zbt,Zbu,Zbv,Zbw,Zbx,Zby,Zbz,Zca,Zcb,Zcc,Zcd,Zce,Zcf,Zcg,Zch,Zci,Zcj,Zck,Zcl,Zcm,Zcn,Zco,Zcp,Zcq,Zcr,Zcs,Zct,Zcu,Zcv,Zcw,Zcx,Zcy,Zcz,Zda,Zdb,Zdc,List.set_cons_zero,List.set_cons_succ,List.getD_cons_zero,List.getD_cons_succ,Option.elim_some,Option.bind_some,Option.map_some,Nat.reduceBEq,Zdd,Zde,Zdf,Zdg,Zdh,Zdi,Zdj,Zdk,Zdl,Zdm,Zdn,Zdo,Zdp,Zdq,Zdr,Zds,Zdt,Zdu,Zdv,Zdw,Zdx,Zdy,Zdz,Zea,Zeb,Zec,Zed,Zee,Zef,Zeg,Zeh,Zei,Zej,Zek,Zel,Zem,Zen,Zeo,Zep,decide_true,decide_false,Bool.not_true,Bool.not_false,List.getElem?_cons_zero,List.getElem?_cons_succ,List.length_cons,List.length_nil,if_true,if_false,reduceIte,Nat.reduceAdd,Nat.reduceSub,Nat.reduceLeDiff,Nat.reduceEqDiff,Int.reduceNeg,Int.reduceLT,Int.reduceLE,Int.reduceEq,eq_self,and_self,and_true,true_and,and_false,false_and,not_true_eq_false,not_false_eq_true,cond_true,cond_false,List.length_map,List.length_cons,List.length_nil,List.replicate_succ,List.replicate_zero,List.cons_append,List.nil_append,aload,acells,getArr,part,eI,eS,astore,putCells,get_new,set_new,List.all_cons,List.all_nil,cellOk,Bool.and_self,List.drop_zero,List.drop_succ_cons,List.take_succ_cons,List.take_zero,List.take_nil,List.cons_append,List.nil_append,List.set_cons_zero,hct,htk,c1,q1,resAll,resVals,resVal,Option.some.injEq,Prod.mk.injEq,true_and,and_true,Bool.true_and,Bool.false_and,Bool.and_true,Bool.and_false,Bool.true_or,Bool.false_or,Bool.or_true,Bool.or_false,exists_eq',exists_const]
  case pos =>
  rw [q1] at c1
  have hd : decide (gramErr g = 0) = true := decide_eq_true q1
  rw [hd, Bool.true_and]
  obtain ⟨h', e, k1, k2⟩ := f_nodesIt_1 (yld_Right g hg) t ht 0 [.arr 0 5 true [eGram g], .arr 0 3 true [cT t], .arr 0 1 true [[.bool false]], .arr 0 1 true [[.int .i64 0]], .arr 0 3 true [cT t], .loop .ready none TRight [12] RA_tree_Right_0 RB_tree_Right_0] (by simpa using hN) ⟨rfl, rfl, rfl, rfl⟩ 4 rfl
  rw [run_Right, nodeB_post] at k2
  have ni := f_nodesIt t [.arr 0 5 true [eGram g], .arr 0 3 true [cT t], .arr 0 1 true [[.bool false]], .arr 0 1 true [[.int .i64 0]]]
  cases q : nodeB g t
  case true =>
    rw [q] at k2
    simp only [if_true] at k2
    obtain ⟨l0, l2, l3, l5⟩ := k2
    have er := fun (F : Out → St → Option (AV × AHeap)) (fs : List Fr) => e_range (n := 1) (F := F) (fs := fs) (f := .t 11) (ps := [12]) (asg := RA_tree_Right_0) (body := RB_tree_Right_0) (t := TRight) (h := [.arr 0 5 true [eGram g], .arr 0 3 true [cT t], .arr 0 1 true [[.bool false]], .arr 0 1 true [[.int .i64 0]], .arr 0 3 true [cT t]]) (g := 72) (first := []) (caps := [.ptr 4 0 0 0]) rfl e l5 (by simp)
    have g2 := get_set_ne (i := 5) (y := AObj.loop .exhausted none TRight [12] RA_tree_Right_0 RB_tree_Right_0) l2 (by omega)
    have g2' := get_set_eq (y := AObj.arr 0 1 true [[.bool true]]) g2
    rw [R_tree_Right]
    simp only [Zaa,Zab,Zac,Zad,Zae,Zaf,Zag,Zah,Zai,Zaj,Zak,Zal,Zam,Zan,Zao,Zap,Zaq,Zar,Zas,Zat,Zau,Zav,Zaw,Zax,Zay,Zaz,Zba,Zbb,Zbc,Zbd,Zbe,Zbf,Zbg,Zbh,Zbi,Zbj,Zbk,Zbl,Zbm,Zbn,Zbo,Zbp,Zbq,Zbr,Zbs,Zbt,Zbu,Zbv,Zbw,Zbx,Zby,Zbz,Zca,Zcb,Zcc,Zcd,Zce,Zcf,Zcg,Zch,Zci,Zcj,Zck,Zcl,Zcm,Zcn,Zco,Zcp,Zcq,Zcr,Zcs,Zct,Zcu,Zcv,Zcw,Zcx,Zcy,Zcz,Zda,Zdb,Zdc,List.set_cons_zero,List.set_cons_succ,List.getD_cons_zero,List.getD_cons_succ,Option.elim_some,Option.bind_some,Option.map_some,Nat.reduceBEq,Zdd,Zde,Zdf,Zdg,Zdh,Zdi,Zdj,Zdk,Zdl,Zdm,Zdn,Zdo,Zdp,Zdq,Zdr,Zds,Zdt,Zdu,Zdv,Zdw,Zdx,Zdy,Zdz,Zea,Zeb,Zec,Zed,Zee,Zef,Zeg,Zeh,Zei,Zej,Zek,Zel,Zem,Zen,Zeo,Zep,decide_true,decide_false,Bool.not_true,Bool.not_false,List.getElem?_cons_zero,List.getElem?_cons_succ,List.length_cons,List.length_nil,if_true,if_false,reduceIte,Nat.reduceAdd,Nat.reduceSub,Nat.reduceLeDiff,Nat.reduceEqDiff,Int.reduceNeg,Int.reduceLT,Int.reduceLE,Int.reduceEq,eq_self,and_self,and_true,true_and,and_false,false_and,not_true_eq_false,not_false_eq_true,cond_true,cond_false,List.length_map,List.length_cons,List.length_nil,List.replicate_succ,List.replicate_zero,List.cons_append,List.nil_append,aload,acells,getArr,part,eI,eS,astore,putCells,get_new,set_new,List.all_cons,List.all_nil,cellOk,Bool.and_self,List.drop_zero,List.drop_succ_cons,List.take_succ_cons,List.take_zero,List.take_nil,List.cons_append,List.nil_append,List.set_cons_zero,hct,htk,c1,ni,er,Option.getD_none,List.length_cons,g2,g2',resAll,resVals,resVal,Option.some.injEq,Prod.mk.injEq,true_and,and_true,Bool.true_and,Bool.false_and,Bool.and_true,Bool.and_false,Bool.true_or,Bool.false_or,Bool.or_true,Bool.or_false,exists_eq',exists_const]
  case false =>
    rw [q] at k2
    simp only [Bool.false_eq_true,if_false] at k2
    obtain ⟨l2, l5⟩ := k2
    have er := fun (F : Out → St → Option (AV × AHeap)) (fs : List Fr) => e_range (n := 1) (F := F) (fs := fs) (f := .t 11) (ps := [12]) (asg := RA_tree_Right_0) (body := RB_tree_Right_0) (t := TRight) (h := [.arr 0 5 true [eGram g], .arr 0 3 true [cT t], .arr 0 1 true [[.bool false]], .arr 0 1 true [[.int .i64 0]], .arr 0 3 true [cT t]]) (g := 72) (first := []) (caps := [.ptr 4 0 0 0]) rfl e l5 (by simp)
    have g2 := get_set_ne (i := 5) (y := AObj.loop .exhausted (some .ret) TRight [12] RA_tree_Right_0 RB_tree_Right_0) l2 (by omega)
    rw [R_tree_Right]
    simp only [Zaa,Zab,Zac,Zad,Zae,Zaf,Zag,Zah,Zai,Zaj,Zak,Zal,Zam,Zan,Zao,Zap,Zaq,Zar,Zas,Zat,Zau,Zav,Zaw,Zax,Zay,Zaz,Zba,Zbb,Zbc,Zbd,Zbe,Zbf,Zbg,Zbh,Zbi,Zbj,Zbk,Zbl,Zbm,Zbn,Zbo,Zbp,Zbq,Zbr,Zbs,Zbt,Zbu,Zbv,Zbw,Zbx,Zby,Zbz,Zca,Zcb,Zcc,Zcd,Zce,Zcf,Zcg,Zch,Zci,Zcj,Zck,Zcl,Zcm,Zcn,Zco,Zcp,Zcq,Zcr,Zcs,Zct,Zcu,Zcv,Zcw,Zcx,Zcy,Zcz,Zda,Zdb,Zdc,List.set_cons_zero,List.set_cons_succ,List.getD_cons_zero,List.getD_cons_succ,Option.elim_some,Option.bind_some,Option.map_some,Nat.reduceBEq,Zdd,Zde,Zdf,Zdg,Zdh,Zdi,Zdj,Zdk,Zdl,Zdm,Zdn,Zdo,Zdp,Zdq,Zdr,Zds,Zdt,Zdu,Zdv,Zdw,Zdx,Zdy,Zdz,Zea,Zeb,Zec,Zed,Zee,Zef,Zeg,Zeh,Zei,Zej,Zek,Zel,Zem,Zen,Zeo,Zep,decide_true,decide_false,Bool.not_true,Bool.not_false,List.getElem?_cons_zero,List.getElem?_cons_succ,List.length_cons,List.length_nil,if_true,if_false,reduceIte,Nat.reduceAdd,Nat.reduceSub,Nat.reduceLeDiff,Nat.reduceEqDiff,Int.reduceNeg,Int.reduceLT,Int.reduceLE,Int.reduceEq,eq_self,and_self,and_true,true_and,and_false,false_and,not_true_eq_false,not_false_eq_true,cond_true,cond_false,List.length_map,List.length_cons,List.length_nil,List.replicate_succ,List.replicate_zero,List.cons_append,List.nil_append,aload,acells,getArr,part,eI,eS,astore,putCells,get_new,set_new,List.all_cons,List.all_nil,cellOk,Bool.and_self,List.drop_zero,List.drop_succ_cons,List.take_succ_cons,List.take_zero,List.take_nil,List.cons_append,List.nil_append,List.set_cons_zero,hct,htk,c1,ni,er,Option.getD_some,List.length_cons,g2,resAll,resVals,resVal,Option.some.injEq,Prod.mk.injEq,true_and,and_true,Bool.true_and,Bool.false_and,Bool.and_true,Bool.and_false,Bool.true_or,Bool.false_or,Bool.or_true,Bool.or_false,exists_eq',exists_const]
end Go.Proofs.Ytkimloceaihplaa.Ai
