/- Trees: yield and reductions by the iterator. By program (mk_tr5.py). -/
import Derived.Test.YtkimloceaihplaapTr4
import Derived.Test.YtkimloceaihplaapOw1
namespace Go.Proofs.Ytkimloceaihplaa.Ai
open Go Go.Proofs
set_option linter.unusedVariables false
set_option linter.unusedSimpArgs false
set_option maxRecDepth 10000
set_option maxHeartbeats 4000000

theorem Own.cell {ys : List Int} {v : AV} {h : AHeap} (ho : Own ys v h) : cellOk v = true ∧ cellsOf v = [v] := by
  rcases ho with ⟨_, h2⟩ | ⟨_, i, ver, h2, _⟩ <;> subst h2 <;> exact ⟨rfl, rfl⟩
theorem Own.hsl {ys : List Int} {v : AV} {h : AHeap} (ho : Own ys v h) (hn : ys ≠ []) : ∃ i ver, v = .hsl i ver 0 ys.length none := by
  rcases ho with ⟨h1, _⟩ | ⟨_, i, ver, h2, _⟩
  · exact absurd h1 hn
  · exact ⟨i, ver, h2⟩
theorem KeepA.fr3 {h h' : AHeap} (k : KeepA h h') : Fr3 h h' := fun j c e => k j _ e fun _ _ e => by cases e
theorem get_len {α : Type} {h : List α} {i : Nat} {x : α} (hi : h[i]? = some x) : i < h.length := (List.getElem?_eq_some_iff.1 hi).1

abbrev TYield : List AV := [.junk,.junk,.junk, .ptr 1 0 0 0, .junk,.junk, .fn (.func 72) [] [.ptr 2 0 0 0], AV.un, .junk,.junk,.junk,.junk,.junk,.junk,.junk,.junk,.junk]
def InvYield (ys : List Int) (h : AHeap) : Prop := (∃ v, h[1]? = some (.arr 0 1 true [[v]]) ∧ Own ys v h) ∧ h[3]? = some (.loop .ready none TYield [7] RA_tree_Yield_0 RB_tree_Yield_0)
def stepYield (ys : List Int) (t : T) : List Int × Bool := (ys ++ (if t.rule = -1 then [t.sym] else []), true)

theorem yld_Yield : Yld 1000000 List.length 3 InvYield (fun _ _ => False) stepYield where
  app := fun x h o hI => by
    obtain ⟨⟨v, h1, ho⟩, h3⟩ := hI
    exact ⟨⟨v, get_app h1 _, ho.app _⟩, get_app h3 _⟩
  cs := fun x t => by simp only [stepYield]; split <;> simp
  y := fun ys h t ht hn hI => by
    obtain ⟨⟨v, h1, ho⟩, h3⟩ := hI
    have hl3 := get_len h3
    obtain ⟨hv1, hv2⟩ := ho.cell
    have hk := cT_eq t
    obtain ⟨box, hbox⟩ : ∃ box : AObj, box = .arr 0 3 true [[.int .i64 t.sym, .int .i64 t.rule, .vsl false (t.kids.map cT)]] := ⟨_, rfl⟩
    have hbx : (h ++ [box])[h.length]? = some box := get_new h box
    obtain ⟨busy, hbusy⟩ : ∃ o : AObj, o = .loop .busy none TYield [7] RA_tree_Yield_0 RB_tree_Yield_0 := ⟨_, rfl⟩
    have h3a : (h ++ [box])[3]? = some (.loop .ready none TYield [7] RA_tree_Yield_0 RB_tree_Yield_0) := get_app h3 _
    have hb1 : ((h ++ [box]).set 3 busy)[1]? = some (.arr 0 1 true [[v]]) := get_set_ne (get_app h1 _) (by omega)
    have hb3 : ((h ++ [box]).set 3 busy)[3]? = some busy := get_set_eq h3a
    have hbb : ((h ++ [box]).set 3 busy)[h.length]? = some box := get_set_ne hbx (by omega)
    have hob : Own ys v ((h ++ [box]).set 3 busy) := (ho.app _).set h3a (fun _ _ e => by cases e) _
    have hfr : Fr3 h ((h ++ [box]).set 3 busy) := (Fr3.app h _).trans (Fr3.set h3a (fun _ e => by cases e) _)
    generalize hB : (h ++ [box]).set 3 busy = hb at *
    have a1 : evalCode (lim G0.cfg) 1 RA_tree_Yield_0 ⟨setAll TYield [7] [.agg (cT t)], h⟩ = some (.normal, ⟨[.junk,.junk,.junk, .ptr 1 0 0 0, .ptr h.length 0 0 0, .junk,.junk, .agg (cT t), .junk,.junk,.junk,.junk,.junk,.junk,.junk,.junk,.junk], h ++ [box]⟩) := by
      rw [eval_e, ERA_tree_Yield_0, hbox, hk]
      simp only [setAll,Zab,Zac,Zag,Zaj,Zak,Zax,Zba,Zbi,Zbm,Zbp,Zcu,Zcw,Zcx,Zda,Zdb,Zdc,List.set_cons_zero,List.set_cons_succ,List.getD_cons_zero,List.getD_cons_succ,Zea,List.getElem?_cons_zero,List.length_cons,List.length_nil,if_true,Nat.reduceAdd,Nat.reduceLeDiff,eq_self,and_self,getArr,astore,putCells,get_new,set_new,List.all_cons,List.all_nil,cellOk,Bool.and_self,List.drop_zero,List.drop_succ_cons,List.take_zero,List.cons_append,List.nil_append,List.set_cons_zero]
    have hcond : (stepYield ys t).1 = ys ++ (if t.rule = -1 then [t.sym] else []) := rfl
    have key : ∃ (v' : AV) (h2 : AHeap), evalCode (lim G0.cfg) 1 RB_tree_Yield_0 ⟨[.junk,.junk,.junk, .ptr 1 0 0 0, .ptr h.length 0 0 0, .junk,.junk, .agg (cT t), .junk,.junk,.junk,.junk,.junk,.junk,.junk,.junk,.junk], hb⟩ = some (.normal, ⟨[.junk,.junk,.junk, .ptr 1 0 0 0, .junk,.junk,.junk,.junk,.junk,.junk,.junk,.junk,.junk,.junk,.junk,.junk,.junk], h2⟩) ∧
        h2[1]? = some (.arr 0 1 true [[v']]) ∧ Own (stepYield ys t).1 v' h2 ∧ h2[3]? = some busy ∧ Fr3 hb h2 := by
      rw [hbox] at hbb
      by_cases q : t.rule = -1
      case neg =>
        refine ⟨v, hb, ?_, hb1, ?_, hb3, Fr3.refl _⟩
        · rw [eval_e, ERB_tree_Yield_0]
          simp only [Zaa,Zab,Zac,Zad,Zae,Zag,Zaj,Zak,Zan,Zas,Zax,Zay,Zbi,Zbo,Zbq,Zby,Zcu,Zcv,Zcw,Zda,Zdb,Zdc,List.set_cons_zero,List.set_cons_succ,List.getD_cons_zero,List.getD_cons_succ,Option.bind_some,Zdk,Zdw,Zdy,decide_false,List.getElem?_cons_zero,List.length_cons,List.length_nil,if_true,Nat.reduceAdd,Nat.reduceLeDiff,Int.reduceNeg,eq_self,aload,acells,getArr,part,List.drop_zero,List.drop_succ_cons,List.take_succ_cons,List.take_zero,List.set_cons_zero,hbb,q]
        · rw [hcond, if_neg q, List.append_nil]; exact hob
      case pos =>
        obtain ⟨v', h2, a, b, c⟩ := hob.append (zs := [t.sym]) (elems_one hb true t.sym) (by simp; omega)
        obtain ⟨i, ver, hv'⟩ := b.hsl (by simp)
        have c1 := c 1 _ hb1 (fun _ _ e => by cases e)
        have c3 : h2[3]? = some busy := c 3 _ hb3 (fun _ _ e => by rw [hbusy] at e; cases e)
        refine ⟨v', h2.set 1 (.arr 0 1 true [[v']]), ?_, get_set_eq c1, ?_, get_set_ne c3 (by omega), c.fr3.trans (Fr3.set c1 (fun _ e => by cases e) _)⟩
        · rw [eval_e, ERB_tree_Yield_0]
          subst hv'
          simp only [Zab,Zac,Zad,Zae,Zag,Zaj,Zak,Zan,Zar,Zax,Zay,Zaz,Zba,Zbi,Zbo,Zbp,Zbq,Zby,Zci,Zcm,Zcu,Zcv,Zcw,Zcx,Zda,Zdb,Zdc,List.set_cons_zero,List.set_cons_succ,List.getD_cons_zero,List.getD_cons_succ,Option.bind_some,Zdk,Zdw,Zdy,Zef,decide_true,List.getElem?_cons_zero,List.length_cons,List.length_nil,if_true,Nat.reduceAdd,Nat.reduceLeDiff,Int.reduceNeg,eq_self,and_self,aload,acells,getArr,part,astore,putCells,List.all_cons,List.all_nil,cellOk,Bool.and_self,List.drop_zero,List.drop_succ_cons,List.take_succ_cons,List.take_zero,List.take_nil,List.cons_append,List.nil_append,List.set_cons_zero,hbb,q,hb1,ev2,lit_one,a,c1]
        · rw [hcond, if_pos q]; exact b.set c1 (fun _ _ e => by cases e) _
    obtain ⟨v', h2, a2, b1, b2, b3, b4⟩ := key
    rw [← hB, hbusy] at a2
    rw [hbusy] at b3
    refine ⟨_, yield_run h3 rfl a1 h3a a2 b3, ?_, ?_⟩
    · exact (hfr.trans b4).trans (Fr3.set b3 (fun _ e => by cases e) _)
    · exact ⟨⟨v', get_set_ne b1 (by omega), b2.set b3 (fun _ _ e => by cases e) _⟩, get_set_eq b3⟩

theorem run_Yield (ys : List Int) (ts : List T) : runP stepYield ys ts = (ys ++ leafSyms ts, true) := by
  induction ts generalizing ys with
  | nil => simp [runP, leafSyms]
  | cons t ts ih =>
    have e1 : runP stepYield ys (t :: ts) = runP stepYield (stepYield ys t).1 ts := rfl
    rw [e1, ih]
    simp only [stepYield,List.append_assoc,leafSyms,List.filterMap_cons]
    by_cases hc : t.rule = -1 <;> simp [hc]

theorem f_Yield (t : T) (ht : okT t) (hs : sizeN t ≤ 1000000) (H : AHeap) : lim G0.cfg (.func 17) [.agg (cT t)] H = some (encL (yieldT t), H) := by
  have hct := cT_len t
  have htk : List.take 3 (cT t) = cT t := List.take_of_length_le (Nat.le_of_eq hct)
  obtain ⟨h', e, k1, k2⟩ := f_nodesIt_1 yld_Yield t ht [] [.arr 0 3 true [cT t], .arr 0 1 true [[.nilS]], .arr 0 3 true [cT t], .loop .ready none TYield [7] RA_tree_Yield_0 RB_tree_Yield_0] (by simp; omega) ⟨⟨_, rfl, Own.nil _⟩, rfl⟩ 2 rfl
  rw [run_Yield, yield_post] at k2
  simp only [if_true,List.nil_append] at k2
  obtain ⟨⟨v, kv, ko⟩, kl⟩ := k2
  have er := fun (F : Out → St → Option (AV × AHeap)) (fs : List Fr) => e_range (n := 1) (F := F) (fs := fs) (f := .t 6) (ps := [7]) (asg := RA_tree_Yield_0) (body := RB_tree_Yield_0) (t := TYield) (h := [.arr 0 3 true [cT t], .arr 0 1 true [[.nilS]], .arr 0 3 true [cT t]]) (g := 72) (first := []) (caps := [.ptr 2 0 0 0]) rfl e kl (by simp)
  have g1 := get_set_ne (i := 3) (y := AObj.loop .exhausted none TYield [7] RA_tree_Yield_0 RB_tree_Yield_0) kv (by omega)
  have go := ko.set kl (fun _ _ e => by cases e) (.loop .exhausted none TYield [7] RA_tree_Yield_0 RB_tree_Yield_0)
  have ni := f_nodesIt t [.arr 0 3 true [cT t], .arr 0 1 true [[.nilS]]]
  obtain ⟨c, hfz⟩ := go.freeze
  refine lim_at rfl rfl P_tree_Yield 1 (fun h => fz_1 (fz_tree t h)) ?_ hfz H
  rw [R_tree_Yield]
  simp only [Zab,Zac,Zae,Zag,Zai,Zaj,Zak,Zan,Zay,Zaz,Zbi,Zbk,Zbm,Zbn,Zbo,Zco,Zcp,Zcr,Zct,Zcu,Zcv,Zcw,Zcy,Zcz,Zda,Zdb,Zdc,List.set_cons_zero,List.set_cons_succ,List.getD_cons_zero,List.getD_cons_succ,Option.bind_some,Option.map_some,Zdy,Zdz,Zea,List.getElem?_cons_zero,List.length_cons,List.length_nil,if_true,Nat.reduceAdd,Nat.reduceSub,Nat.reduceLeDiff,eq_self,List.length_cons,List.length_nil,List.replicate_succ,List.replicate_zero,List.cons_append,List.nil_append,aload,acells,getArr,part,List.drop_zero,List.take_succ_cons,List.take_nil,List.cons_append,List.nil_append,List.set_cons_zero,hct,htk,ni,er,Option.getD_none,List.length_cons,g1,resAll,resVals,resVal]

abbrev TReductions : List AV := [.junk,.junk,.junk, .ptr 1 0 0 0, .junk,.junk, .fn (.func 72) [] [.ptr 2 0 0 0], AV.un, .junk,.junk,.junk,.junk,.junk,.junk,.junk,.junk,.junk,.junk,.junk,.junk,.junk,.junk]
def InvReductions (ys : List Int) (h : AHeap) : Prop := (∃ v, h[1]? = some (.arr 0 1 true [[v]]) ∧ Own ys v h) ∧ h[3]? = some (.loop .ready none TReductions [7] RA_tree_Reductions_0 RB_tree_Reductions_0)
def stepReductions (ys : List Int) (t : T) : List Int × Bool := (ys ++ (if t.rule ≠ -1 ∧ t.rule ≠ 0 then [t.rule] else []), true)

theorem yld_Reductions : Yld 1000000 List.length 3 InvReductions (fun _ _ => False) stepReductions where
  app := fun x h o hI => by
    obtain ⟨⟨v, h1, ho⟩, h3⟩ := hI
    exact ⟨⟨v, get_app h1 _, ho.app _⟩, get_app h3 _⟩
  cs := fun x t => by simp only [stepReductions]; split <;> simp
  y := fun ys h t ht hn hI => by
    obtain ⟨⟨v, h1, ho⟩, h3⟩ := hI
    have hl3 := get_len h3
    obtain ⟨hv1, hv2⟩ := ho.cell
    have hk := cT_eq t
    obtain ⟨box, hbox⟩ : ∃ box : AObj, box = .arr 0 3 true [[.int .i64 t.sym, .int .i64 t.rule, .vsl false (t.kids.map cT)]] := ⟨_, rfl⟩
    have hbx : (h ++ [box])[h.length]? = some box := get_new h box
    obtain ⟨busy, hbusy⟩ : ∃ o : AObj, o = .loop .busy none TReductions [7] RA_tree_Reductions_0 RB_tree_Reductions_0 := ⟨_, rfl⟩
    have h3a : (h ++ [box])[3]? = some (.loop .ready none TReductions [7] RA_tree_Reductions_0 RB_tree_Reductions_0) := get_app h3 _
    have hb1 : ((h ++ [box]).set 3 busy)[1]? = some (.arr 0 1 true [[v]]) := get_set_ne (get_app h1 _) (by omega)
    have hb3 : ((h ++ [box]).set 3 busy)[3]? = some busy := get_set_eq h3a
    have hbb : ((h ++ [box]).set 3 busy)[h.length]? = some box := get_set_ne hbx (by omega)
    have hob : Own ys v ((h ++ [box]).set 3 busy) := (ho.app _).set h3a (fun _ _ e => by cases e) _
    have hfr : Fr3 h ((h ++ [box]).set 3 busy) := (Fr3.app h _).trans (Fr3.set h3a (fun _ e => by cases e) _)
    generalize hB : (h ++ [box]).set 3 busy = hb at *
    have a1 : evalCode (lim G0.cfg) 1 RA_tree_Reductions_0 ⟨setAll TReductions [7] [.agg (cT t)], h⟩ = some (.normal, ⟨[.junk,.junk,.junk, .ptr 1 0 0 0, .ptr h.length 0 0 0, .junk,.junk, .agg (cT t), .junk,.junk,.junk,.junk,.junk,.junk,.junk,.junk,.junk,.junk,.junk,.junk,.junk,.junk], h ++ [box]⟩) := by
      rw [eval_e, ERA_tree_Reductions_0, hbox, hk]
      simp only [setAll,Zab,Zac,Zag,Zaj,Zak,Zax,Zba,Zbi,Zbm,Zbp,Zcu,Zcw,Zcx,Zda,Zdb,Zdc,List.set_cons_zero,List.set_cons_succ,List.getD_cons_zero,List.getD_cons_succ,Zea,List.getElem?_cons_zero,List.length_cons,List.length_nil,if_true,Nat.reduceAdd,Nat.reduceLeDiff,eq_self,and_self,getArr,astore,putCells,get_new,set_new,List.all_cons,List.all_nil,cellOk,Bool.and_self,List.drop_zero,List.drop_succ_cons,List.take_zero,List.cons_append,List.nil_append,List.set_cons_zero]
    have hcond : (stepReductions ys t).1 = ys ++ (if t.rule ≠ -1 ∧ t.rule ≠ 0 then [t.rule] else []) := rfl
    have key : ∃ (v' : AV) (h2 : AHeap), evalCode (lim G0.cfg) 1 RB_tree_Reductions_0 ⟨[.junk,.junk,.junk, .ptr 1 0 0 0, .ptr h.length 0 0 0, .junk,.junk, .agg (cT t), .junk,.junk,.junk,.junk,.junk,.junk,.junk,.junk,.junk,.junk,.junk,.junk,.junk,.junk], hb⟩ = some (.normal, ⟨[.junk,.junk,.junk, .ptr 1 0 0 0, .junk,.junk,.junk,.junk,.junk,.junk,.junk,.junk,.junk,.junk,.junk,.junk,.junk,.junk,.junk,.junk,.junk,.junk], h2⟩) ∧
        h2[1]? = some (.arr 0 1 true [[v']]) ∧ Own (stepReductions ys t).1 v' h2 ∧ h2[3]? = some busy ∧ Fr3 hb h2 := by
      rw [hbox] at hbb
      by_cases q : t.rule = -1
      case pos =>
        have hc : ¬ (t.rule ≠ -1 ∧ t.rule ≠ 0) := fun hh => hh.1 q
        refine ⟨v, hb, ?_, hb1, ?_, hb3, Fr3.refl _⟩
        · rw [eval_e, ERB_tree_Reductions_0]
          simp only [Zaa,Zab,Zac,Zad,Zae,Zag,Zaj,Zak,Zan,Zas,Zax,Zay,Zbe,Zbh,Zbi,Zbj,Zbk,Zbl,Zbo,Zbq,Zby,Zcu,Zcv,Zcw,Zda,Zdb,Zdc,List.set_cons_zero,List.set_cons_succ,List.getD_cons_zero,List.getD_cons_succ,Option.bind_some,Zdl,Zdw,Zdy,decide_true,Bool.not_true,List.getElem?_cons_zero,List.length_cons,List.length_nil,if_true,Nat.reduceAdd,Nat.reduceLeDiff,Int.reduceNeg,eq_self,aload,acells,getArr,part,List.drop_zero,List.drop_succ_cons,List.take_succ_cons,List.take_zero,List.set_cons_zero,hbb,q]
        · rw [hcond, if_neg hc, List.append_nil]; exact hob
      case neg =>
      by_cases q0 : t.rule = 0
      case pos =>
        have hc : ¬ (t.rule ≠ -1 ∧ t.rule ≠ 0) := fun hh => hh.2 q0
        refine ⟨v, hb, ?_, hb1, ?_, hb3, Fr3.refl _⟩
        · rw [eval_e, ERB_tree_Reductions_0]
          simp only [Zaa,Zab,Zac,Zad,Zae,Zag,Zaj,Zak,Zan,Zas,Zax,Zay,Zbb,Zbg,Zbi,Zbj,Zbk,Zbl,Zbo,Zbq,Zby,Zcu,Zcv,Zcw,Zda,Zdb,Zdc,List.set_cons_zero,List.set_cons_succ,List.getD_cons_zero,List.getD_cons_succ,Option.bind_some,Zdl,Zdw,Zdy,decide_true,decide_false,Bool.not_true,Bool.not_false,List.getElem?_cons_zero,List.length_cons,List.length_nil,if_true,Nat.reduceAdd,Nat.reduceLeDiff,Int.reduceNeg,Int.reduceEq,eq_self,aload,acells,getArr,part,List.drop_zero,List.drop_succ_cons,List.take_succ_cons,List.take_zero,List.set_cons_zero,hbb,q0]
        · rw [hcond, if_neg hc, List.append_nil]; exact hob
      case neg =>
        have hc : t.rule ≠ -1 ∧ t.rule ≠ 0 := ⟨q, q0⟩
        obtain ⟨v', h2, a, b, c⟩ := hob.append (zs := [t.rule]) (elems_one hb true t.rule) (by simp; omega)
        obtain ⟨i, ver, hv'⟩ := b.hsl (by simp)
        have c1 := c 1 _ hb1 (fun _ _ e => by cases e)
        have c3 : h2[3]? = some busy := c 3 _ hb3 (fun _ _ e => by rw [hbusy] at e; cases e)
        refine ⟨v', h2.set 1 (.arr 0 1 true [[v']]), ?_, get_set_eq c1, ?_, get_set_ne c3 (by omega), c.fr3.trans (Fr3.set c1 (fun _ e => by cases e) _)⟩
        · rw [eval_e, ERB_tree_Reductions_0]
          subst hv'
          simp only [Zab,Zac,Zad,Zae,Zag,Zaj,Zak,Zan,Zar,Zax,Zay,Zaz,Zba,Zbb,Zbg,Zbi,Zbj,Zbk,Zbl,Zbo,Zbp,Zbq,Zby,Zci,Zcm,Zcu,Zcv,Zcw,Zcx,Zda,Zdb,Zdc,List.set_cons_zero,List.set_cons_succ,List.getD_cons_zero,List.getD_cons_succ,Option.bind_some,Zdl,Zdw,Zdy,Zef,decide_false,Bool.not_false,List.getElem?_cons_zero,List.length_cons,List.length_nil,if_true,Nat.reduceAdd,Nat.reduceLeDiff,Int.reduceNeg,eq_self,and_self,aload,acells,getArr,part,astore,putCells,List.all_cons,List.all_nil,cellOk,Bool.and_self,List.drop_zero,List.drop_succ_cons,List.take_succ_cons,List.take_zero,List.take_nil,List.cons_append,List.nil_append,List.set_cons_zero,hbb,q,q0,hb1,ev2,lit_one,a,c1]
        · rw [hcond, if_pos hc]; exact b.set c1 (fun _ _ e => by cases e) _
    obtain ⟨v', h2, a2, b1, b2, b3, b4⟩ := key
    rw [← hB, hbusy] at a2
    rw [hbusy] at b3
    refine ⟨_, yield_run h3 rfl a1 h3a a2 b3, ?_, ?_⟩
    · exact (hfr.trans b4).trans (Fr3.set b3 (fun _ e => by cases e) _)
    · exact ⟨⟨v', get_set_ne b1 (by omega), b2.set b3 (fun _ _ e => by cases e) _⟩, get_set_eq b3⟩

theorem run_Reductions (ys : List Int) (ts : List T) : runP stepReductions ys ts = (ys ++ redSyms ts, true) := by
  induction ts generalizing ys with
  | nil => simp [runP, redSyms]
  | cons t ts ih =>
    have e1 : runP stepReductions ys (t :: ts) = runP stepReductions (stepReductions ys t).1 ts := rfl
    rw [e1, ih]
    simp only [stepReductions,List.append_assoc,redSyms,List.filterMap_cons]
    by_cases hc : t.rule ≠ -1 ∧ t.rule ≠ 0 <;> simp [hc]

theorem f_Reductions (t : T) (ht : okT t) (hs : sizeN t ≤ 1000000) (H : AHeap) : lim G0.cfg (.func 19) [.agg (cT t)] H = some (encL (redsT t), H) := by
  have hct := cT_len t
  have htk : List.take 3 (cT t) = cT t := List.take_of_length_le (Nat.le_of_eq hct)
  obtain ⟨h', e, k1, k2⟩ := f_nodesIt_1 yld_Reductions t ht [] [.arr 0 3 true [cT t], .arr 0 1 true [[.nilS]], .arr 0 3 true [cT t], .loop .ready none TReductions [7] RA_tree_Reductions_0 RB_tree_Reductions_0] (by simp; omega) ⟨⟨_, rfl, Own.nil _⟩, rfl⟩ 2 rfl
  rw [run_Reductions, reds_post] at k2
  simp only [if_true,List.nil_append] at k2
  obtain ⟨⟨v, kv, ko⟩, kl⟩ := k2
  have er := fun (F : Out → St → Option (AV × AHeap)) (fs : List Fr) => e_range (n := 1) (F := F) (fs := fs) (f := .t 6) (ps := [7]) (asg := RA_tree_Reductions_0) (body := RB_tree_Reductions_0) (t := TReductions) (h := [.arr 0 3 true [cT t], .arr 0 1 true [[.nilS]], .arr 0 3 true [cT t]]) (g := 72) (first := []) (caps := [.ptr 2 0 0 0]) rfl e kl (by simp)
  have g1 := get_set_ne (i := 3) (y := AObj.loop .exhausted none TReductions [7] RA_tree_Reductions_0 RB_tree_Reductions_0) kv (by omega)
  have go := ko.set kl (fun _ _ e => by cases e) (.loop .exhausted none TReductions [7] RA_tree_Reductions_0 RB_tree_Reductions_0)
  have ni := f_nodesIt t [.arr 0 3 true [cT t], .arr 0 1 true [[.nilS]]]
  obtain ⟨c, hfz⟩ := go.freeze
  refine lim_at rfl rfl P_tree_Reductions 1 (fun h => fz_1 (fz_tree t h)) ?_ hfz H
  rw [R_tree_Reductions]
  simp only [Zab,Zac,Zae,Zag,Zai,Zaj,Zak,Zan,Zay,Zaz,Zbi,Zbk,Zbm,Zbn,Zbo,Zco,Zcp,Zcr,Zct,Zcu,Zcv,Zcw,Zcy,Zcz,Zda,Zdb,Zdc,List.set_cons_zero,List.set_cons_succ,List.getD_cons_zero,List.getD_cons_succ,Option.bind_some,Option.map_some,Zdy,Zdz,Zea,List.getElem?_cons_zero,List.length_cons,List.length_nil,if_true,Nat.reduceAdd,Nat.reduceSub,Nat.reduceLeDiff,eq_self,List.length_cons,List.length_nil,List.replicate_succ,List.replicate_zero,List.cons_append,List.nil_append,aload,acells,getArr,part,List.drop_zero,List.take_succ_cons,List.take_nil,List.cons_append,List.nil_append,List.set_cons_zero,hct,htk,ni,er,Option.getD_none,List.length_cons,g1,resAll,resVals,resVal]
end Go.Proofs.Ytkimloceaihplaa.Ai
