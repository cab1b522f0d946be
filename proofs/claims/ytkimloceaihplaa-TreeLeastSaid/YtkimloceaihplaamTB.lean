/- Trees: yield and reductions by the iterator. By program (mk_tr5.py). -/
import Derived.Test.YtkimloceaihplaamTA
namespace Go.Proofs.Ytkimloceaihplaa.Ai
open Go Go.Proofs
open AV renaming junk → J
open List renaming set_cons_zero → Q0, length_cons → Q1, getElem?_cons_zero → Q2, getD_cons_zero → Q3, getD_cons_succ → Q4, length_nil → Q5, nil_append → Q6, set_cons_succ → Q7, cons_append → Q8, drop_succ_cons → Q9, take_succ_cons → Z0, drop_zero → Z1
set_option linter.unusedVariables false
set_option linter.unusedSimpArgs false
set_option maxRecDepth 10000
set_option maxHeartbeats 4000000
theorem Own.cell {ys : List Int} {v : AV} {h : AHeap} (ho : Own ys v h) : cellOk v = true ∧ cellsOf v = [v] := by
 rcases ho with ⟨_, h2⟩ | ⟨_, i, ver, h2, _⟩ <;> subst h2 <;> exact ⟨rfl, rfl⟩
theorem Own.hsl {ys : List Int} {v : AV} {h : AHeap} (ho : Own ys v h) (hn : ys ≠ []) : ∃ i ver, v = .hsl i ver 0 ys.length none := by
 rcases ho with ⟨h1, _⟩ | ⟨_, i, ver, h2, _⟩
 ·exact absurd h1 hn
 ·exact ⟨i, ver, h2⟩
theorem KeepA.fr3 {h h' : AHeap} (k : KeepA h h') : Fr3 h h' := fun j c e => k j _ e fun _ _ e => by cases e
theorem get_len {α : Type} {h : List α} {i : Nat} {x : α} (hi : h[i]? = some x) : i < h.length := (List.getElem?_eq_some_iff.1 hi).1
abbrev TYield : List AV := [J,J,J, .ptr 1 0 0 0, J,J, .fn (.func 72) [] [.ptr 2 0 0 0], AV.un, J,J,J,J,J,J,J,J,J]
def InvYield (ys : List Int) (h : AHeap) : Prop := (∃ v, h[1]? = some (.arr 0 1 true [[v]]) ∧ Own ys v h) ∧ h[3]? = some (.loop .ready none TYield [7] RA_tree_Yield_0 RB_tree_Yield_0)
def stepYield (ys : List Int) (t : T) : List Int × Bool := (ys ++ (if t.rule = -1 then [t.sym] else []), true)
theorem yld_Yield : Yld 1000000 List.length 3 InvYield (fun _ _ => False) stepYield where
 app := fun x h o hI => by
  obtain ⟨⟨v, h1, ho⟩, h3⟩ := hI
  exact ⟨⟨v, get_app h1 _, ho.app _⟩, get_app h3 _⟩
 cs := fun x t => by simp only [stepYield]; split <;> simp
 y := fun ys h t ht hn hI => by
  obtain ⟨⟨v, h1, ho⟩, h3⟩ := hI
  have hl3 := get_len h3
  obtain ⟨hv1, hv2⟩ := ho.cell
  have hk := cT_eq t
  obtain ⟨box, hbox⟩ : ∃ box : AObj, box = .arr 0 3 true [[.int .i64 t.sym, .int .i64 t.rule, .vsl false (t.kids.map cT)]] := ⟨_, rfl⟩
  have hbx : (h ++ [box])[h.length]? = some box := get_new h box
  obtain ⟨busy, hbusy⟩ : ∃ o : AObj, o = .loop .busy none TYield [7] RA_tree_Yield_0 RB_tree_Yield_0 := ⟨_, rfl⟩
  have h3a : (h ++ [box])[3]? = some (.loop .ready none TYield [7] RA_tree_Yield_0 RB_tree_Yield_0) := get_app h3 _
  have hb1 : ((h ++ [box]).set 3 busy)[1]? = some (.arr 0 1 true [[v]]) := get_set_ne (get_app h1 _) (by omega)
  have hb3 : ((h ++ [box]).set 3 busy)[3]? = some busy := get_set_eq h3a
  have hbb : ((h ++ [box]).set 3 busy)[h.length]? = some box := get_set_ne hbx (by omega)
  have hob : Own ys v ((h ++ [box]).set 3 busy) := (ho.app _).set h3a (fun _ _ e => by cases e) _
  have hfr : Fr3 h ((h ++ [box]).set 3 busy) := (Fr3.app h _).trans (Fr3.set h3a (fun _ e => by cases e) _)
  generalize hB : (h ++ [box]).set 3 busy = hb at *
  have a1 : evalCode (lim G0.cfg) 1 RA_tree_Yield_0 ⟨setAll TYield [7] [.agg (cT t)], h⟩ = some (.normal, ⟨[J,J,J, .ptr 1 0 0 0, .ptr h.length 0 0 0, J,J, .agg (cT t), J,J,J,J,J,J,J,J,J], h ++ [box]⟩) := by
   rw [eval_e, ERA_tree_Yield_0, hbox, hk]
   simp only [setAll,Zab,Zac,Zag,Zaj,Zak,Zax,Zba,Zbi,Zbm,Zbp,Zcv,Zcx,Zcy,Zdb,Zdc,Zdd,Q0,Q7,Q3,Q4,Zeb,Q2,Q1,Q5,if_true,Nat.reduceAdd,Nat.reduceLeDiff,eq_self,and_self,getArr,astore,putCells,get_new,set_new,List.all_cons,List.all_nil,cellOk,Bool.and_self,Z1,Q9,List.take_zero,Q8,Q6,Q0]
  have hcond : (stepYield ys t).1 = ys ++ (if t.rule = -1 then [t.sym] else []) := rfl
  have key : ∃ (v' : AV) (h2 : AHeap), evalCode (lim G0.cfg) 1 RB_tree_Yield_0 ⟨[J,J,J, .ptr 1 0 0 0, .ptr h.length 0 0 0, J,J, .agg (cT t), J,J,J,J,J,J,J,J,J], hb⟩ = some (.normal, ⟨[J,J,J, .ptr 1 0 0 0, J,J,J,J,J,J,J,J,J,J,J,J,J], h2⟩) ∧
    h2[1]? = some (.arr 0 1 true [[v']]) ∧ Own (stepYield ys t).1 v' h2 ∧ h2[3]? = some busy ∧ Fr3 hb h2 := by
   rw [hbox] at hbb
   by_cases q : t.rule = -1
   case neg =>
    refine ⟨v, hb, ?_, hb1, ?_, hb3, Fr3.refl _⟩
    ·rw [eval_e, ERB_tree_Yield_0]
     simp only [Zaa,Zab,Zac,Zad,Zae,Zag,Zaj,Zak,Zan,Zas,Zax,Zay,Zbi,Zbo,Zbq,Zby,Zcv,Zcw,Zcx,Zdb,Zdc,Zdd,Q0,Q7,Q3,Q4,Option.bind_some,Zdl,Zdx,Zdz,decide_false,Q2,Q1,Q5,if_true,Nat.reduceAdd,Nat.reduceLeDiff,Int.reduceNeg,eq_self,aload,acells,getArr,part,Z1,Q9,Z0,List.take_zero,Q0,hbb,q]
    ·rw [hcond, if_neg q, List.append_nil]; exact hob
   case pos =>
    obtain ⟨v', h2, a, b, c⟩ := hob.append (zs := [t.sym]) (elems_one hb true t.sym) (by simp; omega)
    obtain ⟨i, ver, hv'⟩ := b.hsl (by simp)
    have c1 := c 1 _ hb1 (fun _ _ e => by cases e)
    have c3 : h2[3]? = some busy := c 3 _ hb3 (fun _ _ e => by rw [hbusy] at e; cases e)
    refine ⟨v', h2.set 1 (.arr 0 1 true [[v']]), ?_, get_set_eq c1, ?_, get_set_ne c3 (by omega), c.fr3.trans (Fr3.set c1 (fun _ e => by cases e) _)⟩
    ·rw [eval_e, ERB_tree_Yield_0]
     subst hv'
     simp only [Zab,Zac,Zad,Zae,Zag,Zaj,Zak,Zan,Zar,Zax,Zay,Zaz,Zba,Zbi,Zbo,Zbp,Zbq,Zby,Zci,Zcn,Zcv,Zcw,Zcx,Zcy,Zdb,Zdc,Zdd,Q0,Q7,Q3,Q4,Option.bind_some,Zdl,Zdx,Zdz,Zeg,decide_true,Q2,Q1,Q5,if_true,Nat.reduceAdd,Nat.reduceLeDiff,Int.reduceNeg,eq_self,and_self,aload,acells,getArr,part,astore,putCells,List.all_cons,List.all_nil,cellOk,Bool.and_self,Z1,Q9,Z0,List.take_zero,List.take_nil,Q8,Q6,Q0,hbb,q,hb1,ev2,lit_one,a,c1]
    ·rw [hcond, if_pos q]; exact b.set c1 (fun _ _ e => by cases e) _
  obtain ⟨v', h2, a2, b1, b2, b3, b4⟩ := key
  rw [← hB, hbusy] at a2
  rw [hbusy] at b3
  refine ⟨_, yield_run h3 rfl a1 h3a a2 b3, ?_, ?_⟩
  ·exact (hfr.trans b4).trans (Fr3.set b3 (fun _ e => by cases e) _)
  ·exact ⟨⟨v', get_set_ne b1 (by omega), b2.set b3 (fun _ _ e => by cases e) _⟩, get_set_eq b3⟩
theorem run_Yield (ys : List Int) (ts : List T) : runP stepYield ys ts = (ys ++ leafSyms ts, true) := by
 induction ts generalizing ys with
 | nil => simp [runP, leafSyms]
 | cons t ts ih =>
  have e1 : runP stepYield ys (t :: ts) = runP stepYield (stepYield ys t).1 ts := rfl
  rw [e1, ih]
  simp only [stepYield,List.append_assoc,leafSyms,List.filterMap_cons]
  by_cases hc : t.rule = -1 <;> simp [hc]
theorem f_Yield (t : T) (ht : okT t) (hs : sizeN t ≤ 1000000) (H : AHeap) : lim G0.cfg (.func 17) [.agg (cT t)] H = some (encL (yieldT t), H) := by
 have hct := cT_len t
 have htk : List.take 3 (cT t) = cT t := List.take_of_length_le (Nat.le_of_eq hct)
 obtain ⟨h', e, k1, k2⟩ := f_nodesIt_1 yld_Yield t ht [] [.arr 0 3 true [cT t], .arr 0 1 true [[.nilS]], .arr 0 3 true [cT t], .loop .ready none TYield [7] RA_tree_Yield_0 RB_tree_Yield_0] (by simp; omega) ⟨⟨_, rfl, Own.nil _⟩, rfl⟩ 2 rfl
 rw [run_Yield, yield_post] at k2
 simp only [if_true,Q6] at k2
 obtain ⟨⟨v, kv, ko⟩, kl⟩ := k2
 have er := fun (F : Out → St → Option (AV × AHeap)) (fs : List Fr) => e_range (n := 1) (F := F) (fs := fs) (f := .t 6) (ps := [7]) (asg := RA_tree_Yield_0) (body := RB_tree_Yield_0) (t := TYield) (h := [.arr 0 3 true [cT t], .arr 0 1 true [[.nilS]], .arr 0 3 true [cT t]]) (g := 72) (first := []) (caps := [.ptr 2 0 0 0]) rfl e kl (by simp)
 have g1 := get_set_ne (i := 3) (y := AObj.loop .exhausted none TYield [7] RA_tree_Yield_0 RB_tree_Yield_0) kv (by omega)
 have go := ko.set kl (fun _ _ e => by cases e) (.loop .exhausted none TYield [7] RA_tree_Yield_0 RB_tree_Yield_0)
 have ni := f_nodesIt t [.arr 0 3 true [cT t], .arr 0 1 true [[.nilS]]]
 obtain ⟨c, hfz⟩ := go.freeze
 refine lim_at rfl rfl P_tree_Yield 1 (fun h => fz_1 (fz_tree t h)) ?_ hfz H
 rw [R_tree_Yield]
 simp only [Zab,Zac,Zae,Zag,Zai,Zaj,Zak,Zan,Zay,Zaz,Zbi,Zbk,Zbm,Zbn,Zbo,Zcp,Zcq,Zcs,Zcu,Zcv,Zcw,Zcx,Zcz,Zda,Zdb,Zdc,Zdd,Q0,Q7,Q3,Q4,Option.bind_some,Option.map_some,Zdz,Zea,Zeb,Q2,Q1,Q5,if_true,Nat.reduceAdd,Nat.reduceSub,Nat.reduceLeDiff,eq_self,Q1,Q5,List.replicate_succ,List.replicate_zero,Q8,Q6,aload,acells,getArr,part,Z1,Z0,List.take_nil,Q8,Q6,Q0,hct,htk,ni,er,Option.getD_none,Q1,g1,resAll,resVals,resVal]
end Go.Proofs.Ytkimloceaihplaa.Ai
namespace Go.Proofs.Ytkimloceaihplaa.Ai
open Go Go.Proofs
open AV renaming junk → J
open List renaming set_cons_zero → Q0, length_cons → Q1, length_nil → Q2, drop_zero → Q3, getElem?_cons_zero → Q4, nil_append → Q5, getD_cons_zero → Q6, getD_cons_succ → Q7, cons_append → Q8, set_cons_succ → Q9, drop_succ_cons → Z0, take_succ_cons → Z1, length_map → Z3, replicate_succ → Z4, replicate_zero → Z5
open Option renaming bind_some → Z2
set_option linter.unusedVariables false
set_option linter.unusedSimpArgs false
set_option maxRecDepth 10000
set_option maxHeartbeats 4000000
theorem r_Size : ∀ t, okT t → sizeN t ≤ 1000000 → ∀ H, lim G0.cfg (.func 15) [.agg (cT t)] H = some (.int .i64 (sizeN t), H) := by
 intro t
 induction t using T.ind with
 | _ s r ks ih =>
 intro hok hN H
 obtain ⟨hs, hr, hlen, hoks⟩ := id hok
 rw [maxLen_eq] at hlen
 have hsz : sizeN (.node s r ks) = 1 + sizeNs ks := by simp [sizeN]
 refine lim_flat rfl rfl P_r20_Size (ks.length + 1) (fun h => fz_1 (fz_tree _ h)) ?_ (fun _ => rfl) H
 have loop : ∀ (d i m : Nat) (v : Nat), ks.length = i + d → d < m → v + sizeNs (ks.drop i) ≤ 1000000 →
   loopN (evalCode (lim G0.cfg) (ks.length + 1) B_r20_Size_0) m ⟨[J, .ptr 0 0 0 0, J, .int .i64 v, .int .i64 i, J,J,J,J,J,J,J,J,J,J,J,J,J,J,J,J], [.arr 0 3 true [[.int .i64 s, .int .i64 r, .vsl false (ks.map cT)]]]⟩ =
    some (.exit 0, ⟨[J,J,J, .int .i64 (v + sizeNs (ks.drop i) : Nat), J,J,J,J,J,J,J,J,J,J,J,J,J,J,J,J,J], [.arr 0 3 true [[.int .i64 s, .int .i64 r, .vsl false (ks.map cT)]]]⟩) := by
  intro d
  induction d with
  | zero =>
   intro i m v h1 h2 h4
   obtain ⟨m, rfl⟩ : ∃ q, m = q + 1 := ⟨m - 1, by omega⟩
   have e1 : ks.drop i = [] := List.drop_eq_nil_iff.2 (by omega)
   have h3 : ¬ ((i : Int) < ks.length) := by omega
   rw [e1]
   simp only [loop_e,EB_r20_Size_0,Zab,Zac,Zad,Zag,Zah,Zaj,Zak,Zal,Zas,Zav,Zay,Zbi,Zbk,Zbo,Zbq,Zby,Zcg,Zcv,Zcx,Zdb,Zdc,Zdd,Q0,Q9,Q6,Q7,Z2,Zdh,Zdt,Zdx,Zdz,decide_false,Q4,Q1,Q2,if_true,Nat.reduceAdd,Nat.reduceLeDiff,eq_self,Z3,aload,acells,getArr,part,Q3,Z0,Z1,List.take_nil,Q0,h3,sizeNs,Nat.add_zero]
  | succ d ihd =>
   intro i m v h1 h2 h4
   obtain ⟨m, rfl⟩ : ∃ q, m = q + 1 := ⟨m - 1, by omega⟩
   have h3 : i < ks.length := by omega
   have h3' : (i : Int) < ks.length := by omega
   have e1 : ks.drop i = ks[i] :: ks.drop (i + 1) := List.drop_eq_getElem_cons h3
   have hw := w64s (n := i) (by omega)
   rw [e1] at h4 ⊢
   simp only [sizeNs] at h4 ⊢
   have hmem : ks[i] ∈ ks := List.getElem_mem h3
   have hc := ih ks[i] hmem (okTs_mem hoks hmem) (by omega)
   have hct := cT_len ks[i]
   have htk : List.take 3 (cT ks[i]) = cT ks[i] := List.take_of_length_le (Nat.le_of_eq hct)
   have hadd : IntKind.i64.wrap ((v : Int) + (sizeN ks[i] : Int)) = ((v + sizeN ks[i] : Nat) : Int) := by rw [w64 (by omega) (by omega)]; omega
   have := ihd (i + 1) m (v + sizeN ks[i]) (by omega) (by omega) (by omega)
   rw [← Nat.add_assoc, ← this]
   simp only [loop_e,EB_r20_Size_0,Zaa,Zab,Zac,Zad,Zae,Zag,Zaj,Zak,Zan,Zar,Zau,Zay,Zaz,Zbi,Zbk,Zbo,Zbq,Zby,Zcb,Zcg,Zcp,Zcq,Zcv,Zcw,Zcx,Zcz,Zda,Zdb,Zdc,Zdd,Q0,Q9,Q6,Q7,Z2,Zde,Zdh,Zdt,Zdx,Zdz,Zea,decide_true,Q4,Q1,Q2,if_true,Nat.reduceAdd,Nat.reduceLeDiff,eq_self,Z3,aload,acells,getArr,part,Q3,Z0,Z1,List.take_nil,Q8,Q5,Q0,h3',ix_tree _ _ ks _ i h3,hct,htk,hc,hadd,hw]
 have e := loop ks.length 0 (ks.length + 1) 1 (by omega) (by omega) (by rw [Q3]; omega)
 have z1 : ((1 : Nat) : Int) = 1 := rfl
 rw [Q3, z0, z1] at e
 rw [R_r20_Size, hsz]
 simp only [Zab,Zac,Zae,Zaf,Zag,Zai,Zaj,Zak,Zap,Zat,Zaz,Zbi,Zbk,Zbn,Zcs,Zcu,Zcv,Zcw,Zcx,Zdb,Zdc,Zdd,Q0,Q9,Q6,Q7,Option.map_some,Zeb,Q1,Q2,if_true,Nat.reduceAdd,Nat.reduceSub,eq_self,true_and,Q1,Q2,Z4,Z5,Q8,Q5,Q8,Q5,Q0,cT,cTs_map,e,resAll,resVals,resVal,Option.some.injEq,Prod.mk.injEq,true_and,exists_eq']
mutual
theorem yieldT_len : ∀ t, (yieldT t).length ≤ sizeN t
 | .node s r ks => by
  have := yieldTs_len ks
  simp only [yieldT,sizeN,List.length_append]
  split <;> simp <;> omega
theorem yieldTs_len : ∀ ks, (yieldTs ks).length ≤ sizeNs ks
 | [] => Nat.le_refl _
 | t :: r => by
  have h1 := yieldT_len t
  have h2 := yieldTs_len r
  simp only [yieldTs,sizeNs,List.length_append]; omega
end
theorem r_Yield : ∀ t, okT t → sizeN t ≤ 1000000 → ∀ H, lim G0.cfg (.func 18) [.agg (cT t)] H = some (encL (yieldT t), H) := by
 intro t
 induction t using T.ind with
 | _ s r ks ih =>
 intro hok hN H
 obtain ⟨hs, hr, hlen, hoks⟩ := id hok
 rw [maxLen_eq] at hlen
 have hsz : sizeN (.node s r ks) = 1 + sizeNs ks := by simp [sizeN]
 have loop : ∀ (d i m : Nat) (ys : List Int) (v : AV) (h : AHeap), ks.length = i + d → d < m → ys.length + sizeNs (ks.drop i) ≤ 1000000 → Own ys v h → h[0]? = some (.arr 0 3 true [[.int .i64 s, .int .i64 r, .vsl false (ks.map cT)]]) →
   ∃ v' h', loopN (evalCode (lim G0.cfg) (ks.length + 1) B_r20_Yield_0) m ⟨[J, .ptr 0 0 0 0, J, v, .int .i64 i, J,J,J,J,J,J,J,J,J,J,J,J,J,J,J,J,J,J,J,J,J,J,J,J], h⟩ = some (.exit 0, ⟨[J, .ptr 0 0 0 0, J, v', J,J,J,J,J,J,J,J,J,J,J,J,J,J,J,J,J,J,J,J,J,J,J,J,J], h'⟩) ∧ Own (ys ++ yieldTs (ks.drop i)) v' h' ∧
    h'[0]? = some (.arr 0 3 true [[.int .i64 s, .int .i64 r, .vsl false (ks.map cT)]]) := by
  intro d
  induction d with
  | zero =>
   intro i m ys v h h1 h2 h4 ho hb
   obtain ⟨m, rfl⟩ : ∃ q, m = q + 1 := ⟨m - 1, by omega⟩
   have e1 : ks.drop i = [] := List.drop_eq_nil_iff.2 (by omega)
   have h3 : ¬ ((i : Int) < ks.length) := by omega
   rw [e1]
   exact ⟨v, h, by simp only [loop_e,EB_r20_Yield_0,Zab,Zac,Zad,Zag,Zah,Zaj,Zak,Zal,Zas,Zav,Zay,Zbi,Zbk,Zbo,Zbq,Zby,Zcg,Zcv,Zcx,Zdb,Zdc,Zdd,Q0,Q9,Q6,Q7,Z2,Zdh,Zdt,Zdx,Zdz,decide_false,Q4,Q1,Q2,if_true,Nat.reduceAdd,Nat.reduceLeDiff,eq_self,Z3,aload,acells,getArr,part,Q3,Z0,Z1,List.take_nil,Q0,hb,h3], by simpa [yieldTs] using ho, hb⟩
  | succ d ihd =>
   intro i m ys v h h1 h2 h4 ho hb
   obtain ⟨m, rfl⟩ : ∃ q, m = q + 1 := ⟨m - 1, by omega⟩
   have h3 : i < ks.length := by omega
   have h3' : (i : Int) < ks.length := by omega
   have e1 : ks.drop i = ks[i] :: ks.drop (i + 1) := List.drop_eq_getElem_cons h3
   have hw := w64s (n := i) (by omega)
   rw [e1] at h4 ⊢
   simp only [sizeNs,yieldTs] at h4 ⊢
   have hmem : ks[i] ∈ ks := List.getElem_mem h3
   have hc := ih ks[i] hmem (okTs_mem hoks hmem) (by omega)
   have hct := cT_len ks[i]
   have htk : List.take 3 (cT ks[i]) = cT ks[i] := List.take_of_length_le (Nat.le_of_eq hct)
   have hyl := yieldT_len ks[i]
   obtain ⟨v1, h1', a1, a2, a3⟩ := ho.append (x := encL (yieldT ks[i])) (elems_encL h _) (by omega)
   have hb' := a3 0 _ hb (fun _ _ e => by cases e)
   obtain ⟨v2, h2', b1, b2, b3⟩ := ihd (i + 1) m _ v1 h1' (by omega) (by omega) (by rw [List.length_append]; omega) a2 hb'
   refine ⟨v2, h2', ?_, by rw [← List.append_assoc]; exact b2, b3⟩
   rw [← b1]
   simp only [loop_e,EB_r20_Yield_0,Zaa,Zab,Zac,Zad,Zae,Zag,Zaj,Zak,Zan,Zar,Zau,Zay,Zaz,Zbi,Zbk,Zbo,Zbq,Zby,Zcb,Zcg,Zci,Zcp,Zcq,Zcv,Zcw,Zcx,Zcz,Zda,Zdb,Zdc,Zdd,Q0,Q9,Q6,Q7,Z2,Zde,Zdh,Zdt,Zdx,Zdz,Zea,decide_true,Q4,Q1,Q2,if_true,Nat.reduceAdd,Nat.reduceLeDiff,eq_self,Z3,aload,acells,getArr,part,Q3,Z0,Z1,List.take_nil,Q8,Q5,Q0,hb,h3',ix_tree _ _ ks _ i h3,hct,htk,hc,a1,hw]
 obtain ⟨v, h', e, ho, hb⟩ := loop ks.length 0 (ks.length + 1) [] .nilS [.arr 0 3 true [[.int .i64 s, .int .i64 r, .vsl false (ks.map cT)]]] (by omega) (by omega) (by rw [Q3]; simp; omega) (Own.nil _) rfl
 rw [Q3, Q5] at ho
 rw [z0] at e
 have hlk := yieldTs_len ks
 by_cases q : r = -1
 case neg =>
  have hR : yieldT (.node s r ks) = yieldTs ks := by simp [yieldT, q]
  rw [hR]
  obtain ⟨c, hfz⟩ := ho.freeze
  refine lim_at rfl rfl P_r20_Yield (ks.length + 1) (fun h => fz_1 (fz_tree _ h)) ?_ hfz H
  rw [R_r20_Yield]
  simp only [Zaa,Zab,Zac,Zad,Zae,Zaf,Zag,Zai,Zaj,Zak,Zap,Zas,Zat,Zay,Zaz,Zbi,Zbk,Zbn,Zbo,Zbq,Zby,Zcs,Zcu,Zcv,Zcw,Zcx,Zdb,Zdc,Zdd,Q0,Q9,Q6,Q7,Z2,Option.map_some,Zdl,Zdx,Zdz,Zeb,decide_false,Q4,Q1,Q2,if_true,Nat.reduceAdd,Nat.reduceSub,Nat.reduceLeDiff,Int.reduceNeg,eq_self,Q1,Q2,Z4,Z5,Q8,Q5,aload,acells,getArr,part,Q3,Z0,Z1,List.take_zero,Q8,Q5,Q0,cT,cTs_map,e,hb,q,resAll,resVals,resVal]
 case pos =>
  have hR : yieldT (.node s r ks) = yieldTs ks ++ [s] := by simp [yieldT, q]
  rw [hR]
  obtain ⟨v', h2, a, b, c'⟩ := ho.append (zs := [s]) (elems_one h' true s) (by simp; omega)
  obtain ⟨c, hfz⟩ := b.freeze
  refine lim_at rfl rfl P_r20_Yield (ks.length + 1) (fun h => fz_1 (fz_tree _ h)) ?_ hfz H
  rw [R_r20_Yield]
  subst q
  simp only [Zab,Zac,Zad,Zae,Zaf,Zag,Zai,Zaj,Zak,Zap,Zar,Zat,Zay,Zaz,Zbi,Zbk,Zbn,Zbo,Zbq,Zby,Zci,Zcn,Zcs,Zcu,Zcv,Zcw,Zcx,Zdb,Zdc,Zdd,Q0,Q9,Q6,Q7,Z2,Option.map_some,Zdl,Zdx,Zdz,Zeb,decide_true,Q4,Q1,Q2,if_true,Nat.reduceAdd,Nat.reduceSub,Nat.reduceLeDiff,Int.reduceNeg,eq_self,Q1,Q2,Z4,Z5,Q8,Q5,aload,acells,getArr,part,Q3,Z0,Z1,List.take_zero,Q8,Q5,Q0,cT,cTs_map,e,hb,ev2,lit_one,a,resAll,resVals,resVal]
end Go.Proofs.Ytkimloceaihplaa.Ai
