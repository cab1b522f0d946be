/- Trees: the functions that only count, walked. -/
import Derived.Test.YtkimloceaihplaamGC
import Derived.Test.YtkimloceaihplaamGA
namespace Go.Proofs.Ytkimloceaihplaa.Ai
open Go Go.Proofs
open AV renaming junk → J
open List renaming set_cons_zero → Q0, length_map → Q1, length_cons → Q2, getD_cons_zero → Q3, getD_cons_succ → Q4, length_nil → Q5, set_cons_succ → Q6, getElem?_cons_zero → Q7, drop_succ_cons → Q8, take_succ_cons → Q9, drop_zero → Z0
set_option linter.unusedVariables false
set_option linter.unusedSimpArgs false
set_option maxRecDepth 10000
set_option maxHeartbeats 4000000
theorem f_nodes : ∀ t, okT t → ∀ (m : Nat), 1 ≤ m → m ≤ 1000000 → ∀ H, lim G0.cfg (.func 10) [.agg (cT t), .int .i64 m] H = some (.int .i64 (min (sizeN t) m : Nat), H) := by
 intro t
 induction t using T.ind with
 | _ s r ks ih =>
 intro hok m hm0 hm1 H
 obtain ⟨hs, hr, hlen, hoks⟩ := hok
 rw [maxLen_eq] at hlen
 refine lim_flat rfl rfl P_l20_nodes (ks.length + 1) (fun h => fz_2 (fz_tree _ h) rfl) ?_ (fun _ => rfl) H
 have loop : ∀ (d i mm : Nat) (v : Nat), ks.length = i + d → d < mm → v ≤ m → 1 ≤ v →
   loopN (evalCode (lim G0.cfg) (ks.length + 1) B_l20_nodes_0) mm ⟨[J, .int .i64 m, .ptr 0 0 0 0, J,J, .int .i64 v, .int .i64 i, J,J,J,J,J,J,J,J,J,J,J,J,J,J,J,J,J,J,J,J,J,J,J,J], [.arr 0 3 true [[.int .i64 s, .int .i64 r, .vsl false (ks.map cT)]]]⟩ =
    some (.exit 0, ⟨[J,J,J,J,J, .int .i64 (min (v + sizeNs (ks.drop i)) m : Nat), J,J,J,J,J,J,J,J,J,J,J,J,J,J,J,J,J,J,J,J,J,J,J,J,J], [.arr 0 3 true [[.int .i64 s, .int .i64 r, .vsl false (ks.map cT)]]]⟩) := by
  intro d
  induction d with
  | zero =>
   intro i mm v h1 h2 h4 h5
   obtain ⟨mm, rfl⟩ : ∃ q, mm = q + 1 := ⟨mm - 1, by omega⟩
   have e1 : ks.drop i = [] := List.drop_eq_nil_iff.2 (by omega)
   have h3 : ¬ ((i : Int) < ks.length) := by omega
   have e2 : min (v + sizeNs []) m = v := by simp [sizeNs]; omega
   rw [e1, e2]
   simp only [loop_e,EB_l20_nodes_0,Zab,Zac,Zad,Zag,Zah,Zaj,Zak,Zal,Zas,Zav,Zay,Zbe,Zbh,Zbi,Zbj,Zbk,Zbl,Zbo,Zbq,Zby,Zcg,Zcv,Zcw,Zcx,Zdb,Zdc,Zdd,Q0,Q6,Q3,Q4,Option.bind_some,Zdh,Zdt,Zdx,Zdz,decide_false,Q7,Q2,Q5,if_true,Nat.reduceAdd,Nat.reduceLeDiff,eq_self,Q1,aload,acells,getArr,part,Z0,Q8,Q9,List.take_nil,Q0,Q1,h3]
  | succ d ihd =>
   intro i mm v h1 h2 h4 h5
   obtain ⟨mm, rfl⟩ : ∃ q, mm = q + 1 := ⟨mm - 1, by omega⟩
   have h3 : i < ks.length := by omega
   have h3' : (i : Int) < ks.length := by omega
   have e1 : ks.drop i = ks[i] :: ks.drop (i + 1) := List.drop_eq_getElem_cons h3
   have hw := w64s (n := i) (by omega)
   have hp := sizeN_pos ks[i]
   by_cases q : (v : Int) < m
   case neg =>
    have e2 : min (v + sizeNs (ks.drop i)) m = v := by omega
    rw [e2]
    simp only [loop_e,EB_l20_nodes_0,Zab,Zac,Zad,Zag,Zah,Zaj,Zak,Zal,Zas,Zav,Zay,Zbb,Zbg,Zbi,Zbj,Zbk,Zbl,Zbo,Zbq,Zby,Zcg,Zcv,Zcw,Zcx,Zdb,Zdc,Zdd,Q0,Q6,Q3,Q4,Option.bind_some,Zdh,Zdt,Zdx,Zdz,decide_true,decide_false,Q7,Q2,Q5,if_true,Nat.reduceAdd,Nat.reduceLeDiff,eq_self,Q1,aload,acells,getArr,part,Z0,Q8,Q9,List.take_nil,Q0,Q1,h3',q]
   case pos =>
    have hc := ih ks[i] (List.getElem_mem h3) (okTs_mem hoks (List.getElem_mem h3)) (m - v) (by omega) (by omega)
    have hsub : ((m - v : Nat) : Int) = IntKind.i64.wrap ((m : Int) - v) := by rw [w64 (by omega) (by omega)]; omega
    rw [hsub] at hc
    have hadd : IntKind.i64.wrap ((v : Int) + ((min (sizeN ks[i]) (m - v) : Nat) : Int)) = ((v + min (sizeN ks[i]) (m - v) : Nat) : Int) := by rw [w64 (by omega) (by omega)]; omega
    have := ihd (i + 1) mm (v + min (sizeN ks[i]) (m - v)) (by omega) (by omega) (by omega) (by omega)
    have e2 : min (v + sizeNs (ks.drop i)) m = min (v + min (sizeN ks[i]) (m - v) + sizeNs (ks.drop (i + 1))) m := by
     rw [e1]; simp only [sizeNs]; omega
    rw [e2, ← this]
    have hct := cT_len ks[i]
    simp only [loop_e,EB_l20_nodes_0,Zaa,Zab,Zac,Zad,Zae,Zag,Zaj,Zak,Zan,Zar,Zau,Zay,Zaz,Zbb,Zbg,Zbi,Zbj,Zbk,Zbl,Zbo,Zbq,Zby,Zcb,Zcg,Zcp,Zcq,Zcv,Zcw,Zcx,Zcz,Zda,Zdb,Zdc,Zdd,Q0,Q6,Q3,Q4,Option.bind_some,Zde,Zdf,Zdh,Zdt,Zdx,Zdz,Zea,decide_true,Q7,Q2,Q5,if_true,Nat.reduceAdd,Nat.reduceLeDiff,eq_self,Q1,aload,acells,getArr,part,Z0,Q8,Q9,List.take_nil,List.cons_append,List.nil_append,Q0,Q1,h3',q,ix_tree _ _ ks _ i h3,hct,List.take_of_length_le (Nat.le_of_eq hct),hc,hadd,hw]
 have e := loop ks.length 0 (ks.length + 1) 1 (by omega) (by omega) hm0 (by omega)
 rw [Z0, z0] at e
 have z1 : ((1 : Nat) : Int) = 1 := rfl
 rw [z1] at e
 rw [R_l20_nodes]
 have e3 : sizeN (.node s r ks) = 1 + sizeNs ks := by simp [sizeN]
 rw [e3]
 simp only [Zab,Zac,Zae,Zaf,Zag,Zai,Zaj,Zak,Zap,Zat,Zaz,Zbi,Zbk,Zbn,Zcs,Zcu,Zcv,Zcw,Zcx,Zdb,Zdc,Zdd,Q0,Q6,Q3,Q4,Option.map_some,Zeb,Q2,Q5,if_true,Nat.reduceAdd,Nat.reduceSub,eq_self,true_and,Q2,Q5,List.replicate_succ,List.replicate_zero,List.cons_append,List.nil_append,List.cons_append,List.nil_append,Q0,cT,cTs_map,e,resAll,resVals,resVal,Option.some.injEq,Prod.mk.injEq,true_and,exists_eq']
end Go.Proofs.Ytkimloceaihplaa.Ai
namespace Go.Proofs.Ytkimloceaihplaa.Ai
open Go Go.Proofs
open AV renaming junk → J
open List renaming set_cons_zero → Q0, cons_append → Q1, length_cons → Q2, length_nil → Q3, nil_append → Q4, getD_cons_zero → Q5, getD_cons_succ → Q6, set_cons_succ → Q7, getElem?_cons_zero → Q8, drop_zero → Q9, drop_succ_cons → Z2, take_succ_cons → Z3, replicate_succ → Z4, replicate_zero → Z5
open Bool renaming false_eq_true → Z0
open Option renaming bind_some → Z1, map_some → Z6
set_option linter.unusedVariables false
set_option linter.unusedSimpArgs false
set_option maxRecDepth 10000
set_option maxHeartbeats 4000000
def runP {X : Type} (step : X → T → X × Bool) : X → List T → X × Bool
 | x, [] => (x, true)
 | x, t :: ts => if (step x t).2 = true then runP step (step x t).1 ts else ((step x t).1, false)
theorem runP_app {X : Type} (step : X → T → X × Bool) : ∀ (x : X) (a b : List T), runP step x (a ++ b) = if (runP step x a).2 = true then runP step (runP step x a).1 b else runP step x a
 | x, [], b => by simp [runP]
 | x, t :: a, b => by
  simp only [Q1,runP]
  by_cases h : (step x t).2 = true
  ·simp only [h,if_true]; exact runP_app step _ a b
  ·simp only [h]; simp
def Fr3 (h h' : AHeap) : Prop := ∀ (j : Nat) (c : List (List AV)), h[j]? = some (.arr 0 3 true c) → h'[j]? = some (.arr 0 3 true c)
theorem Fr3.refl (h : AHeap) : Fr3 h h := fun _ _ e => e
theorem Fr3.trans {a b c : AHeap} (h : Fr3 a b) (k : Fr3 b c) : Fr3 a c := fun j r e => k j r (h j r e)
theorem Fr3.set {h : AHeap} {i : Nat} {o : AObj} (ho : h[i]? = some o) (hn : ∀ c, o ≠ .arr 0 3 true c) (o' : AObj) : Fr3 h (h.set i o') := fun j c e => by
 have hij : i ≠ j := fun he => by subst he; rw [ho] at e; cases e; exact hn c rfl
 rw [List.getElem?_set_ne hij]; exact e
theorem Fr3.app (h : AHeap) (l : AHeap) : Fr3 h (h ++ l) := fun j r e => get_app e l
structure Yld {X : Type} (N : Nat) (cnt : X → Nat) (l : Nat) (Inv Stop : X → AHeap → Prop) (step : X → T → X × Bool) : Prop where
 app : ∀ x h o, Inv x h → Inv x (h ++ [o])
 cs : ∀ x t, cnt (step x t).1 ≤ cnt x + 1
 y : ∀ x h t, okT t → cnt x < N → Inv x h → ∃ h', lim G0.cfg (.yield l) [.agg (cT t)] h = some (.bool (step x t).2, h') ∧ Fr3 h h' ∧ (if (step x t).2 = true then Inv (step x t).1 h' else Stop (step x t).1 h')
theorem runP_cnt {X : Type} {step : X → T → X × Bool} {cnt : X → Nat} (hc : ∀ x t, cnt (step x t).1 ≤ cnt x + 1) : ∀ (ts : List T) (x : X), cnt (runP step x ts).1 ≤ cnt x + ts.length
 | [], x => by simp [runP]
 | t :: ts, x => by
  have h1 := hc x t
  have h2 := runP_cnt hc ts (step x t).1
  simp only [runP]
  split
  ·simp; omega
  ·simp; omega
section
variable {X : Type} {N : Nat} {cnt : X → Nat} {l : Nat} {Inv Stop : X → AHeap → Prop} {step : X → T → X × Bool}
def WalkOk (Inv Stop : X → AHeap → Prop) (r : X × Bool) (h h' : AHeap) : Prop := Fr3 h h' ∧ (if r.2 = true then Inv r.1 h' else Stop r.1 h')
theorem f_walk (hy : Yld N cnt l Inv Stop step) : ∀ t, okT t → ∀ x h, cnt x + sizeN t ≤ N → Inv x h → ∃ h', lim G0.cfg (.func 73) [.agg (cT t), .fn (.yield l) [] []] h = some (.bool (runP step x (post t)).2, h') ∧ WalkOk Inv Stop (runP step x (post t)) h h' := by
 intro t
 induction t using T.ind with
 | _ s r ks ih =>
 intro hok x h hN hI
 have hsz : sizeN (.node s r ks) = 1 + sizeNs ks := by simp [sizeN]
 obtain ⟨hs, hr, hlen, hoks⟩ := id hok
 rw [maxLen_eq] at hlen
 obtain ⟨b, hb⟩ : ∃ b, b = h.length := ⟨_, rfl⟩
 obtain ⟨box, hbox⟩ : ∃ box : AObj, box = .arr 0 3 true [[.int .i64 s, .int .i64 r, .vsl false (ks.map cT)]] := ⟨_, rfl⟩
 have loop : ∀ (d i m : Nat) (x : X) (h : AHeap), ks.length = i + d → d < m → cnt x + sizeNs (ks.drop i) ≤ N → Inv x h → h[b]? = some box → ∃ h',
   loopN (evalCode (lim G0.cfg) (ks.length + 1) B_tree_walk_0) m ⟨[J, .fn (.yield l) [] [], .ptr b 0 0 0, J,J,J,J,J, .vsl false (ks.map cT), .int .i64 ks.length, .int .i64 i, J,J,J,J,J,J,J,J,J,J,J], h⟩ =
    (bif (runP step x (posts (ks.drop i))).2 then some (.exit 0, ⟨[J, .fn (.yield l) [] [], .ptr b 0 0 0, J,J,J,J,J,J,J,J,J,J,J,J,J,J,J,J,J,J,J], h'⟩) else some (.ret, ⟨[J,J,J,J, .bool false, J,J,J,J,J,J,J,J,J,J,J,J,J,J,J,J,J], h'⟩)) ∧
    WalkOk Inv Stop (runP step x (posts (ks.drop i))) h h' := by
  intro d
  induction d with
  | zero =>
   intro i m x h h1 h2 hN hI hbx
   obtain ⟨m, rfl⟩ : ∃ q, m = q + 1 := ⟨m - 1, by omega⟩
   have e1 : ks.drop i = [] := List.drop_eq_nil_iff.2 (by omega)
   have h3 : ¬ ((i : Int) < ks.length) := by omega
   rw [e1]
   exact ⟨h, by simp only [loop_e,EB_tree_walk_0,Zab,Zac,Zad,Zag,Zah,Zaj,Zak,Zal,Zas,Zav,Zay,Zbi,Zbq,Zcv,Zcx,Zdb,Zdc,Zdd,Q0,Q7,Q5,Q6,Zdh,decide_false,eq_self,cond_true,h3,posts,runP], Fr3.refl h, hI⟩
  | succ d ihd =>
   intro i m x h h1 h2 hN hI hbx
   obtain ⟨m, rfl⟩ : ∃ q, m = q + 1 := ⟨m - 1, by omega⟩
   have h3 : i < ks.length := by omega
   have h3' : (i : Int) < ks.length := by omega
   have e1 : ks.drop i = ks[i] :: ks.drop (i + 1) := List.drop_eq_getElem_cons h3
   have hw := w64s (n := i) (by omega)
   have hmem : ks[i] ∈ ks := List.getElem_mem h3
   rw [e1] at hN
   simp only [sizeNs] at hN
   obtain ⟨h', hc, k2, k3⟩ := ih ks[i] hmem (okTs_mem hoks hmem) x (h ++ [.arr 0 3 true [cT ks[i]]]) (by omega) (hy.app x h _ hI)
   have hk := cT_eq ks[i]
   have hfr : Fr3 h h' := (Fr3.app h _).trans k2
   have ii := fun h => ix_tree h false ks .i64 i h3
   rw [e1]
   simp only [posts]
   rw [runP_app]
   simp only [hk] at hc ii
   cases q : (runP step x (post ks[i])).2
   case false =>
    rw [q] at hc
    simp only [q,Z0,if_false] at k3
    refine ⟨h', ?_, hfr, by simpa only [q, Z0, if_false] using k3⟩
    simp only [loop_e,EB_tree_walk_0,Zaa,Zab,Zac,Zad,Zae,Zag,Zai,Zaj,Zak,Zam,Zao,Zar,Zaw,Zay,Zaz,Zba,Zbi,Zbk,Zbm,Zbo,Zbp,Zbq,Zbr,Zcb,Zcp,Zcq,Zcv,Zcw,Zcx,Zcy,Zcz,Zda,Zdb,Zdc,Zdd,Q0,Q7,Q5,Q6,Z1,Zdh,Zdr,Zea,Zeb,decide_true,Bool.not_false,Q8,Q2,Q3,if_true,if_false,Nat.reduceAdd,Nat.reduceLeDiff,eq_self,and_self,cond_false,aload,acells,getArr,part,astore,putCells,get_new,set_new,List.all_cons,List.all_nil,cellOk,Bool.and_self,Q9,Z2,Z3,List.take_zero,List.take_nil,Q1,Q4,Q0,h3',ii,hc,q,Z0]
   case true =>
    rw [q] at hc
    simp only [q,if_true] at k3
    obtain ⟨h'', e, m2, m3⟩ := ihd (i + 1) m _ h' (by omega) (by omega) (by have := runP_cnt hy.cs (post ks[i]) x; rw [post_len] at this; omega) k3 (by rw [hbox]; exact hfr b _ (hbox ▸ hbx))
    refine ⟨h'', ?_, hfr.trans m2, by simpa only [q, if_true] using m3⟩
    simp only [if_true, ← e]
    simp only [loop_e,EB_tree_walk_0,Zaa,Zab,Zac,Zad,Zae,Zag,Zaj,Zak,Zan,Zar,Zas,Zau,Zay,Zaz,Zba,Zbi,Zbk,Zbm,Zbo,Zbp,Zbq,Zbr,Zcb,Zcp,Zcq,Zcv,Zcw,Zcx,Zcy,Zcz,Zda,Zdb,Zdc,Zdd,Q0,Q7,Q5,Q6,Z1,Zde,Zdh,Zdr,Zea,Zeb,decide_true,Bool.not_true,Q8,Q2,Q3,if_true,Nat.reduceAdd,Nat.reduceLeDiff,eq_self,and_self,aload,acells,getArr,part,astore,putCells,get_new,set_new,List.all_cons,List.all_nil,cellOk,Bool.and_self,Q9,Z2,Z3,List.take_zero,List.take_nil,Q1,Q4,Q0,h3',ii,hc,hw]
 obtain ⟨h1, e, m2, m3⟩ := loop ks.length 0 (ks.length + 1) x (h ++ [box]) (by omega) (by omega) (by rw [Q9]; omega) (hy.app x h _ hI) (by rw [hb]; simp)
 rw [Q9, z0] at e
 rw [Q9] at m3
 have hfr : Fr3 h h1 := (Fr3.app h _).trans m2
 have hbx1 : h1[b]? = some box := by rw [hbox]; exact m2 b _ (by rw [hb, hbox]; simp)
 have ep : post (.node s r ks) = posts ks ++ [.node s r ks] := by simp [post]
 rw [ep, runP_app]
 cases q : (runP step x (posts ks)).2
 case false =>
  rw [q] at e
  simp only [cond_false] at e
  simp only [q,Z0,if_false] at m3
  refine ⟨h1, lim_func rfl P_tree_walk (ks.length + 1) ?_, hfr, by simpa only [q, Z0, if_false] using m3⟩
  rw [R_tree_walk]
  rw [hbox, hb] at e
  simp only [Zab,Zac,Zae,Zaf,Zag,Zaj,Zak,Zam,Zao,Zat,Zay,Zaz,Zbi,Zbk,Zbn,Zbo,Zby,Zcg,Zcs,Zcu,Zcv,Zcw,Zcx,Zdb,Zdc,Zdd,Q0,Q7,Q5,Q6,Z1,Z6,Zdt,Zdx,Zdz,Zeb,Q8,Q2,Q3,if_true,if_false,Nat.reduceAdd,Nat.reduceSub,Nat.reduceLeDiff,eq_self,List.length_map,Q2,Q3,Z4,Z5,Q1,Q4,aload,acells,getArr,part,get_new,Q9,Z2,Z3,List.take_nil,Q1,Q4,Q0,cT,cTs_map,e,q,Z0,resAll,resVals,resVal]
 case true =>
  rw [q] at e
  simp only [cond_true] at e
  simp only [q,if_true] at m3
  obtain ⟨h2, hc, k2, k3⟩ := hy.y _ h1 (.node s r ks) hok (by have := runP_cnt hy.cs (posts ks) x; rw [posts_len] at this; omega) m3
  have er : runP step (runP step x (posts ks)).1 [.node s r ks] = step (runP step x (posts ks)).1 (.node s r ks) := by
   simp only [runP]
   cases h : step (runP step x (posts ks)).1 (.node s r ks) with
   | mk a c => cases c <;> simp
  simp only [if_true,er]
  refine ⟨h2, lim_func rfl P_tree_walk (ks.length + 1) ?_, hfr.trans k2, k3⟩
  rw [R_tree_walk]
  rw [hbox] at e hbx1
  rw [hb] at e hbx1
  simp only [cT,cTs_map] at hc
  simp only [Zab,Zac,Zae,Zaf,Zag,Zai,Zaj,Zak,Zap,Zat,Zay,Zaz,Zbi,Zbk,Zbn,Zbo,Zby,Zcg,Zcp,Zcr,Zcs,Zcu,Zcv,Zcw,Zcx,Zcz,Zda,Zdb,Zdc,Zdd,Q0,Q7,Q5,Q6,Z1,Z6,Zdt,Zdx,Zdz,Zea,Zeb,Q8,Q2,Q3,if_true,Nat.reduceAdd,Nat.reduceSub,Nat.reduceLeDiff,eq_self,List.length_map,Q2,Q3,Z4,Z5,Q1,Q4,aload,acells,getArr,part,get_new,Q9,Z2,Z3,List.take_nil,Q1,Q4,Q0,cT,cTs_map,e,hbx1,hc,resAll,resVals,resVal]
end
theorem e_range {R : Type} {call : CallT} {n : Nat} {F : Out → St → Option R} {fs : List Fr} {f : AX} {ps : List Nat} {asg body : ACode} {t : List AV} {h h' : AHeap} {g : FuncId} {first caps : List AV} {x : AV} {st : LS} {pend : Option Out} {t' : List AV} {ps' : List Nat} {asg' body' : ACode}
  (hf : f.ev t = .fn (.func g) first caps) (hc : call (.func g) (first ++ [.fn (.yield h.length) [] []] ++ caps) (h ++ [.loop .ready none t ps asg body]) = some (x, h')) (hl : h'[h.length]? = some (.loop st pend t' ps' asg' body')) (hs : st ≠ .busy) :
  eq1 call n F (.range f ps asg body) ⟨t, h⟩ fs = kr call n F fs (pend.getD .normal) ⟨t, h'.set h.length (.loop .exhausted pend t' ps' asg' body')⟩ := by
 simp only [eq1,ek,evalCode,hf,hc,hl,if_neg hs,Z1]
theorem yield_run {l n : Nat} {args t t1 t2 : List AV} {ps : List Nat} {asg body : ACode} {h h1 h2 : AHeap} {out : Out} (hl : h[l]? = some (.loop .ready none t ps asg body)) (ha : args.length = ps.length)
  (h1e : evalCode (lim G0.cfg) n asg ⟨setAll t ps args, h⟩ = some (.normal, ⟨t1, h1⟩)) (hl1 : h1[l]? = some (.loop .ready none t ps asg body))
  (h2e : evalCode (lim G0.cfg) n body ⟨t1, h1.set l (.loop .busy none t ps asg body)⟩ = some (out, ⟨t2, h2⟩)) (hl2 : h2[l]? = some (.loop .busy none t ps asg body)) :
  lim G0.cfg (.yield l) args h = some (.bool (decide (out = .normal)), h2.set l (.loop (if out = .normal then .ready else .done) (if out = .normal then none else some out) t ps asg body)) := by
 refine lim_yield n ?_
 simp only [yieldCall,hl,ha,if_true,h1e,hl1,h2e,hl2]
theorem f_nodesIt (t : T) (h : AHeap) : lim G0.cfg (.func 34) [.agg (cT t)] h = some (.fn (.func 72) [] [.ptr h.length 0 0 0], h ++ [.arr 0 3 true [cT t]]) := by
 refine lim_func rfl P_tree_nodes 1 ?_
 rw [R_tree_nodes]
 have hct := cT_len t
 simp only [Zab,Zac,Zai,Zaj,Zak,Zaz,Zbi,Zbk,Zbn,Zbt,Zcs,Zcu,Zcv,Zcw,Zcx,Zcz,Zda,Q0,Q7,Q5,Q6,Z6,Zeb,Q2,Q3,if_true,Nat.reduceAdd,Nat.reduceSub,eq_self,Q2,Q3,Z4,Z5,Q1,Q4,Q1,Q4,Q0,hct,resAll,resVals,resVal]
theorem f_nodesIt_1 {X : Type} {N : Nat} {cnt : X → Nat} {l : Nat} {Inv Stop : X → AHeap → Prop} {step : X → T → X × Bool} (hy : Yld N cnt l Inv Stop step) (t : T) (ht : okT t) (x : X) (h : AHeap) (hN : cnt x + sizeN t ≤ N) (hI : Inv x h) (b : Nat) (hb : h[b]? = some (.arr 0 3 true [cT t])) :
  ∃ h', lim G0.cfg (.func 72) [.fn (.yield l) [] [], .ptr b 0 0 0] h = some (.tup [], h') ∧ WalkOk Inv Stop (runP step x (post t)) h h' := by
 obtain ⟨h', e, k⟩ := f_walk hy t ht x h hN hI
 refine ⟨h', lim_func rfl P_tree_nodes_1 1 ?_, k⟩
 rw [R_tree_nodes_1]
 have hct := cT_len t
 have htk : List.take 3 (cT t) = cT t := List.take_of_length_le (Nat.le_of_eq hct)
 simp only [Zab,Zaj,Zay,Zaz,Zbi,Zbk,Zbo,Zcp,Zcq,Zct,Zcv,Zcw,Zcx,Zcz,Zda,Q0,Q7,Q5,Q6,Z1,Z6,Zea,Q8,Q2,Q3,if_true,Nat.reduceAdd,Nat.reduceSub,Nat.reduceLeDiff,eq_self,Q2,Q3,Z4,Z5,Q1,Q4,aload,acells,getArr,part,Q9,Q1,Q4,Q0,hb,hct,htk,e,resAll,resVals]
end Go.Proofs.Ytkimloceaihplaa.Ai
namespace Go.Proofs.Ytkimloceaihplaa.Ai
open Go Go.Proofs
set_option linter.unusedVariables false
set_option linter.unusedSimpArgs false
set_option maxRecDepth 10000
set_option maxHeartbeats 4000000
theorem get_set_ne {α : Type} {h : List α} {i j : Nat} {x y : α} (hj : h[j]? = some x) (hij : i ≠ j) : (h.set i y)[j]? = some x := by rw [List.getElem?_set_ne hij]; exact hj
theorem get_set_eq {α : Type} {h : List α} {i : Nat} {x y : α} (hi : h[i]? = some x) : (h.set i y)[i]? = some y := List.getElem?_set_self (List.getElem?_eq_some_iff.1 hi).1
end Go.Proofs.Ytkimloceaihplaa.Ai
namespace Go.Proofs.Ytkimloceaihplaa.Ai
open Go
set_option linter.unusedVariables false
set_option linter.unusedSimpArgs false
def Own (ys : List Int) (v : AV) (h : AHeap) : Prop := (ys = [] ∧ v = .nilS) ∨ (ys ≠ [] ∧ ∃ i ver, v = .hsl i ver 0 ys.length none ∧ h[i]? = some (.arr ver 1 false (eIs ys)))
def KeepA (h h' : AHeap) : Prop := ∀ (j : Nat) (o : AObj), h[j]? = some o → (∀ ver l, o ≠ .arr ver 1 false l) → h'[j]? = some o
def encL (ys : List Int) : AV := if ys = [] then .nilS else .vsl false (eIs ys)
theorem Own.nil (h : AHeap) : Own [] .nilS h := .inl ⟨rfl, rfl⟩
theorem Own.app {ys : List Int} {v : AV} {h : AHeap} (ho : Own ys v h) (l : AHeap) : Own ys v (h ++ l) := by
 rcases ho with ⟨h1, h2⟩ | ⟨h1, i, ver, h2, h3⟩
 ·exact .inl ⟨h1, h2⟩
 ·exact .inr ⟨h1, i, ver, h2, get_app h3 l⟩
theorem Own.set {ys : List Int} {v : AV} {h : AHeap} (ho : Own ys v h) {j : Nat} {o : AObj} (hj : h[j]? = some o) (hn : ∀ ver l, o ≠ .arr ver 1 false l) (o' : AObj) : Own ys v (h.set j o') := by
 rcases ho with ⟨h1, h2⟩ | ⟨h1, i, ver, h2, h3⟩
 ·exact .inl ⟨h1, h2⟩
 ·refine .inr ⟨h1, i, ver, h2, ?_⟩
  have : j ≠ i := fun e => by subst e; rw [h3] at hj; cases hj; exact hn _ _ rfl
  rw [List.getElem?_set_ne this]; exact h3
theorem eIs_all (zs : List Int) : (eIs zs).all (fun c => c.length == 1 && c.all cellOk) = true := by
 induction zs with
 | nil => rfl
 | cons a z ih => simp [eIs, eI, cellOk]
theorem eIs_append (a b : List Int) : eIs (a ++ b) = eIs a ++ eIs b := by simp [eIs]
theorem Own.append {ys zs : List Int} {v x : AV} {h : AHeap} (ho : Own ys v h) (hx : elemsOf h 1 x = some (eIs zs)) (hl : ys.length + zs.length ≤ 1000000000) : ∃ v' h', aapp h 1 8 v x = some (v', h') ∧ Own (ys ++ zs) v' h' ∧ KeepA h h' := by
 unfold aapp
 rw [hx]
 simp only [Option.elim_some,aappend,Zep]
 by_cases hz : zs.length = 0
 ·have : zs = [] := List.length_eq_zero_iff.1 hz
  subst this
  rw [if_pos hz, List.append_nil]
  rcases ho with ⟨h1, h2⟩ | ⟨h1, i, ver, h2, h3⟩
  ·subst h2; exact ⟨_, _, rfl, .inl ⟨h1, rfl⟩, fun j o e _ => e⟩
  ·subst h2
   refine ⟨_, _, by simp only [aappend0,getArr,h3,if_true,Option.map_some], .inr ⟨h1, i, ver, rfl, h3⟩, fun j o e _ => e⟩
 ·rw [if_neg hz]
  have hzn : zs ≠ [] := fun e => hz (by rw [e]; rfl)
  rcases ho with ⟨h1, h2⟩ | ⟨h1, i, ver, h2, h3⟩
  ·subst h1 h2
   have hc : (eIs zs).length * (8 + 1) ≤ 68719476736 ∧ (eIs zs).all (fun c => c.length == 1 && c.all cellOk) = true := ⟨by rw [Zep]; simp at hl; omega, eIs_all zs⟩
   refine ⟨_, _, by simp only [aappendN,freshArr]; rw [if_pos hc], .inr ⟨by simpa using hzn, h.length, 0, by rw [Zep]; rfl, by simp⟩, fun j o e _ => get_app e _⟩
  ·subst h2
   have hne : ¬ (0 + ys.length + (eIs zs).length ≤ (eIs ys).length ∧ inRoom (ys.length + (eIs zs).length) none = true) := by
    rw [Zep, Zep]; omega
   have hc1 : True ∧ 0 + ys.length ≤ (eIs ys).length := ⟨trivial, by rw [Zep]; omega⟩
   have htk : (List.drop 0 (eIs ys)).take ys.length = eIs ys := by rw [List.drop_zero]; exact List.take_of_length_le (by rw [Zep]; omega)
   have hc : (eIs ys ++ eIs zs).length * (8 + 1) ≤ 68719476736 ∧ (eIs ys ++ eIs zs).all (fun c => c.length == 1 && c.all cellOk) = true := ⟨by rw [List.length_append, Zep, Zep]; omega, by rw [← eIs_append]; exact eIs_all _⟩
   refine ⟨.hsl i (ver + 1) 0 (eIs ys ++ eIs zs).length none, h.set i (.arr (ver + 1) 1 false (eIs ys ++ eIs zs)), ?_, .inr ⟨by simp [h1], i, ver + 1, by rw [List.length_append, Zep, Zep, List.length_append], ?_⟩, fun j o e hn => ?_⟩
   ·simp only [aappendN,getArr,h3,if_true]
    rw [if_pos hc1, if_neg hne]
    simp only [htk]
    rw [if_pos hc]
   ·rw [eIs_append]; exact List.getElem?_set_self (List.getElem?_eq_some_iff.1 h3).1
   ·have : i ≠ j := fun he => by subst he; rw [h3] at e; cases e; exact hn _ _ rfl
    rw [List.getElem?_set_ne this]; exact e
theorem freeze_ints (h : AHeap) (d : Nat) : ∀ ys : List Int, mapO (mapO (freeze h (d + 1))) (eIs ys) = some (ys.map fun y => [(.int .i64 y, true)])
 | [] => rfl
 | y :: ys => by
  have := freeze_ints h d ys
  simp only [eIs,List.map_cons,mapO,eI,freeze] at this ⊢
  rw [this]
theorem freeze_hsl {h : AHeap} {d i v o n sz : Nat} {c : Option Nat} {x : Bool} {l : List (List AV)} {q : List (List (AV × Bool))} (hg : getArr h i v = some (sz, x, l)) (hl : o + n ≤ l.length) (hm : mapO (mapO (freeze h d)) ((l.drop o).take n) = some q) :
  freeze h (d + 1) (.hsl i v o n c) = some (.vsl false (q.map (·.map (·.1))), false) := by
 simp only [freeze,hg]
 rw [if_pos hl, hm]
 rfl
theorem Own.freeze {ys : List Int} {v : AV} {h : AHeap} (ho : Own ys v h) : ∃ c, Ai.freeze h 1000 v = some (encL ys, c) := by
 rcases ho with ⟨h1, h2⟩ | ⟨h1, i, ver, h2, h3⟩
 ·subst h1 h2; exact ⟨true, rfl⟩
 ·subst h2
  refine ⟨false, ?_⟩
  have htk : (List.drop 0 (eIs ys)).take ys.length = eIs ys := by rw [List.drop_zero]; exact List.take_of_length_le (by rw [Zep]; omega)
  have hl : 0 + ys.length ≤ (eIs ys).length := by rw [Zep]; omega
  have hg : getArr h i ver = some (1, false, eIs ys) := by simp only [getArr,h3,if_true]
  have hm : mapO (mapO (Ai.freeze h 999)) (((eIs ys).drop 0).take ys.length) = some (ys.map fun y => [(.int .i64 y, true)]) := by rw [htk]; exact freeze_ints h 998 ys
  have := freeze_hsl (d := 999) (c := none) hg hl hm
  rw [this, encL, if_neg h1]
  congr 2
  simp [eIs, eI, Function.comp_def]
theorem elems_encL (h : AHeap) (ys : List Int) : elemsOf h 1 (encL ys) = some (eIs ys) := by
 unfold encL
 by_cases e : ys = []
 ·rw [if_pos e, e]; rfl
 ·rw [if_neg e]
  cases ys with
  | nil => exact absurd rfl e
  | cons a l => simp [elemsOf, eIs, eI]
theorem elems_one (h : AHeap) (e : Bool) (s : Int) : elemsOf h 1 (.vsl e [[.int .i64 s]]) = some (eIs [s]) := rfl
theorem len_encL (h : AHeap) (ys : List Int) : alen h .slice (encL ys) = some (.int .i64 ys.length) := by
 unfold encL
 by_cases e : ys = []
 ·rw [if_pos e, e]; rfl
 ·rw [if_neg e]; simp [alen, Zep]
theorem ix_encL (h : AHeap) (ys : List Int) (k : IntKind) (j : Nat) (hj : j < ys.length) : aindexAddr h 1 (encL ys) (.int k j) = some (.vptr (eI ys[j]) 0) := by
 have : ys ≠ [] := fun e => by subst e; simp at hj
 rw [encL, if_neg this]; exact ix_eIs h false ys k j hj
theorem KeepA.refl (h : AHeap) : KeepA h h := fun _ _ e _ => e
theorem KeepA.trans {a b c : AHeap} (h : KeepA a b) (k : KeepA b c) : KeepA a c := fun j o e hn => k j o (h j o e hn) hn
theorem KeepA.app (h l : AHeap) : KeepA h (h ++ l) := fun j o e _ => get_app e l
theorem lit_one (h : AHeap) (s : Int) : abs0 h false 1 1 [.int .i64 0] [(0, .int .i64 s)] = some (.vsl true [[.int .i64 s]], h) := by
 simp [abs0, fillCells, flatParts, putCells, cellsOf, chop, pure1]
end Go.Proofs.Ytkimloceaihplaa.Ai
