/- Trees: ranging over the nodes of a tree, whatever the loop's body does. -/
import Derived.Test.YtkimloceaihplaapTr2
namespace Go.Proofs.Ytkimloceaihplaa.Ai
open Go Go.Proofs
set_option linter.unusedVariables false
set_option linter.unusedSimpArgs false
set_option maxRecDepth 10000
set_option maxHeartbeats 4000000

/-- What is left of the states that a body leaves; does it go on? -/
def runP {X : Type} (step : X → T → X × Bool) : X → List T → X × Bool
  | x, [] => (x, true)
  | x, t :: ts => if (step x t).2 = true then runP step (step x t).1 ts else ((step x t).1, false)
theorem runP_app {X : Type} (step : X → T → X × Bool) : ∀ (x : X) (a b : List T), runP step x (a ++ b) = if (runP step x a).2 = true then runP step (runP step x a).1 b else runP step x a
  | x, [], b => by simp [runP]
  | x, t :: a, b => by
    simp only [List.cons_append,runP]
    by_cases h : (step x t).2 = true
    · simp only [h,if_true]; exact runP_app step _ a b
    · simp only [h]; simp

/-- Objects of three cells stay as they were. -/
def Fr3 (h h' : AHeap) : Prop := ∀ (j : Nat) (c : List (List AV)), h[j]? = some (.arr 0 3 true c) → h'[j]? = some (.arr 0 3 true c)
theorem Fr3.refl (h : AHeap) : Fr3 h h := fun _ _ e => e
theorem Fr3.trans {a b c : AHeap} (h : Fr3 a b) (k : Fr3 b c) : Fr3 a c := fun j r e => k j r (h j r e)
theorem Fr3.set {h : AHeap} {i : Nat} {o : AObj} (ho : h[i]? = some o) (hn : ∀ c, o ≠ .arr 0 3 true c) (o' : AObj) : Fr3 h (h.set i o') := fun j c e => by
  have hij : i ≠ j := fun he => by subst he; rw [ho] at e; cases e; exact hn c rfl
  rw [List.getElem?_set_ne hij]; exact e
theorem Fr3.app (h : AHeap) (l : AHeap) : Fr3 h (h ++ l) := fun j r e => get_app e l

/-- A body that is run at each node. -/
structure Yld {X : Type} (N : Nat) (cnt : X → Nat) (l : Nat) (Inv Stop : X → AHeap → Prop) (step : X → T → X × Bool) : Prop where
  app : ∀ x h o, Inv x h → Inv x (h ++ [o])
  cs : ∀ x t, cnt (step x t).1 ≤ cnt x + 1
  y : ∀ x h t, okT t → cnt x < N → Inv x h → ∃ h', lim G0.cfg (.yield l) [.agg (cT t)] h = some (.bool (step x t).2, h') ∧ Fr3 h h' ∧ (if (step x t).2 = true then Inv (step x t).1 h' else Stop (step x t).1 h')

theorem runP_cnt {X : Type} {step : X → T → X × Bool} {cnt : X → Nat} (hc : ∀ x t, cnt (step x t).1 ≤ cnt x + 1) : ∀ (ts : List T) (x : X), cnt (runP step x ts).1 ≤ cnt x + ts.length
  | [], x => by simp [runP]
  | t :: ts, x => by
    have h1 := hc x t
    have h2 := runP_cnt hc ts (step x t).1
    simp only [runP]
    split
    · simp; omega
    · simp; omega

section
variable {X : Type} {N : Nat} {cnt : X → Nat} {l : Nat} {Inv Stop : X → AHeap → Prop} {step : X → T → X × Bool}

def WalkOk (Inv Stop : X → AHeap → Prop) (r : X × Bool) (h h' : AHeap) : Prop := Fr3 h h' ∧ (if r.2 = true then Inv r.1 h' else Stop r.1 h')

theorem f_walk (hy : Yld N cnt l Inv Stop step) : ∀ t, okT t → ∀ x h, cnt x + sizeN t ≤ N → Inv x h → ∃ h', lim G0.cfg (.func 73) [.agg (cT t), .fn (.yield l) [] []] h = some (.bool (runP step x (post t)).2, h') ∧ WalkOk Inv Stop (runP step x (post t)) h h' := by
  intro t
  induction t using T.ind with
  | _ s r ks ih =>
  intro hok x h hN hI
  have hsz : sizeN (.node s r ks) = 1 + sizeNs ks := by simp [sizeN]
  obtain ⟨hs, hr, hlen, hoks⟩ := id hok
  rw [maxLen_eq] at hlen
  obtain ⟨b, hb⟩ : ∃ b, b = h.length := ⟨_, rfl⟩
  obtain ⟨box, hbox⟩ : ∃ box : AObj, box = .arr 0 3 true [[.int .i64 s, .int .i64 r, .vsl false (ks.map cT)]] := ⟨_, rfl⟩
  have loop : ∀ (d i m : Nat) (x : X) (h : AHeap), ks.length = i + d → d < m → cnt x + sizeNs (ks.drop i) ≤ N → Inv x h → h[b]? = some box → ∃ h',
      loopN (evalCode (lim G0.cfg) (ks.length + 1) B_tree_walk_0) m ⟨[.junk, .fn (.yield l) [] [], .ptr b 0 0 0, .junk,.junk,.junk,.junk,.junk, .vsl false (ks.map cT), .int .i64 ks.length, .int .i64 i, .junk,.junk,.junk,.junk,.junk,.junk,.junk,.junk,.junk,.junk,.junk], h⟩ =
        (bif (runP step x (posts (ks.drop i))).2 then some (.exit 0, ⟨[.junk, .fn (.yield l) [] [], .ptr b 0 0 0, .junk,.junk,.junk,.junk,.junk,.junk,.junk,.junk,.junk,.junk,.junk,.junk,.junk,.junk,.junk,.junk,.junk,.junk,.junk], h'⟩) else some (.ret, ⟨[.junk,.junk,.junk,.junk, .bool false, .junk,.junk,.junk,.junk,.junk,.junk,.junk,.junk,.junk,.junk,.junk,.junk,.junk,.junk,.junk,.junk,.junk], h'⟩)) ∧
        WalkOk Inv Stop (runP step x (posts (ks.drop i))) h h' := by
    intro d
    induction d with
    | zero =>
      intro i m x h h1 h2 hN hI hbx
      obtain ⟨m, rfl⟩ : ∃ q, m = q + 1 := ⟨m - 1, by omega⟩
      have e1 : ks.drop i = [] := List.drop_eq_nil_iff.2 (by omega)
      have h3 : ¬ ((i : Int) < ks.length) := by omega
      rw [e1]
      exact ⟨h, by simp only [loop_e,EB_tree_walk_0,Zab,Zac,Zad,Zag,Zah,Zaj,Zak,Zal,Zas,Zav,Zay,Zbi,Zbq,Zcu,Zcw,Zda,Zdb,Zdc,List.set_cons_zero,List.set_cons_succ,List.getD_cons_zero,List.getD_cons_succ,Zdg,decide_false,eq_self,cond_true,h3,posts,runP], Fr3.refl h, hI⟩
    | succ d ihd =>
      intro i m x h h1 h2 hN hI hbx
      obtain ⟨m, rfl⟩ : ∃ q, m = q + 1 := ⟨m - 1, by omega⟩
      have h3 : i < ks.length := by omega
      have h3' : (i : Int) < ks.length := by omega
      have e1 : ks.drop i = ks[i] :: ks.drop (i + 1) := List.drop_eq_getElem_cons h3
      have hw := w64s (n := i) (by omega)
      have hmem : ks[i] ∈ ks := List.getElem_mem h3
      rw [e1] at hN
      simp only [sizeNs] at hN
      obtain ⟨h', hc, k2, k3⟩ := ih ks[i] hmem (okTs_mem hoks hmem) x (h ++ [.arr 0 3 true [cT ks[i]]]) (by omega) (hy.app x h _ hI)
      have hk := cT_eq ks[i]
      have hfr : Fr3 h h' := (Fr3.app h _).trans k2
      have ii := fun h => ix_tree h false ks .i64 i h3
      rw [e1]
      simp only [posts]
      rw [runP_app]
      simp only [hk] at hc ii
      cases q : (runP step x (post ks[i])).2
      case false =>
        rw [q] at hc
        simp only [q,Bool.false_eq_true,if_false] at k3
        refine ⟨h', ?_, hfr, by simpa only [q, Bool.false_eq_true, if_false] using k3⟩
        simp only [loop_e,EB_tree_walk_0,Zaa,Zab,Zac,Zad,Zae,Zag,Zai,Zaj,Zak,Zam,Zao,Zar,Zaw,Zay,Zaz,Zba,Zbi,Zbk,Zbm,Zbo,Zbp,Zbq,Zbr,Zcb,Zco,Zcp,Zcu,Zcv,Zcw,Zcx,Zcy,Zcz,Zda,Zdb,Zdc,List.set_cons_zero,List.set_cons_succ,List.getD_cons_zero,List.getD_cons_succ,Option.bind_some,Zdg,Zdq,Zdz,Zea,decide_true,Bool.not_false,List.getElem?_cons_zero,List.length_cons,List.length_nil,if_true,if_false,Nat.reduceAdd,Nat.reduceLeDiff,eq_self,and_self,cond_false,aload,acells,getArr,part,astore,putCells,get_new,set_new,List.all_cons,List.all_nil,cellOk,Bool.and_self,List.drop_zero,List.drop_succ_cons,List.take_succ_cons,List.take_zero,List.take_nil,List.cons_append,List.nil_append,List.set_cons_zero,h3',ii,hc,q,Bool.false_eq_true]
      case true =>
        rw [q] at hc
        simp only [q,if_true] at k3
        obtain ⟨h'', e, m2, m3⟩ := ihd (i + 1) m _ h' (by omega) (by omega) (by have := runP_cnt hy.cs (post ks[i]) x; rw [post_len] at this; omega) k3 (by rw [hbox]; exact hfr b _ (hbox ▸ hbx))
        refine ⟨h'', ?_, hfr.trans m2, by simpa only [q, if_true] using m3⟩
        simp only [if_true, ← e]
        simp only [loop_e,EB_tree_walk_0,Zaa,Zab,Zac,Zad,Zae,Zag,Zaj,Zak,Zan,Zar,Zas,Zau,Zay,Zaz,Zba,Zbi,Zbk,Zbm,Zbo,Zbp,Zbq,Zbr,Zcb,Zco,Zcp,Zcu,Zcv,Zcw,Zcx,Zcy,Zcz,Zda,Zdb,Zdc,List.set_cons_zero,List.set_cons_succ,List.getD_cons_zero,List.getD_cons_succ,Option.bind_some,Zdd,Zdg,Zdq,Zdz,Zea,decide_true,Bool.not_true,List.getElem?_cons_zero,List.length_cons,List.length_nil,if_true,Nat.reduceAdd,Nat.reduceLeDiff,eq_self,and_self,aload,acells,getArr,part,astore,putCells,get_new,set_new,List.all_cons,List.all_nil,cellOk,Bool.and_self,List.drop_zero,List.drop_succ_cons,List.take_succ_cons,List.take_zero,List.take_nil,List.cons_append,List.nil_append,List.set_cons_zero,h3',ii,hc,hw]
  obtain ⟨h1, e, m2, m3⟩ := loop ks.length 0 (ks.length + 1) x (h ++ [box]) (by omega) (by omega) (by rw [List.drop_zero]; omega) (hy.app x h _ hI) (by rw [hb]; simp)
  rw [List.drop_zero, z0] at e
  rw [List.drop_zero] at m3
  have hfr : Fr3 h h1 := (Fr3.app h _).trans m2
  have hbx1 : h1[b]? = some box := by rw [hbox]; exact m2 b _ (by rw [hb, hbox]; simp)
  have ep : post (.node s r ks) = posts ks ++ [.node s r ks] := by simp [post]
  rw [ep, runP_app]
  cases q : (runP step x (posts ks)).2
  case false =>
    rw [q] at e
    simp only [cond_false] at e
    simp only [q,Bool.false_eq_true,if_false] at m3
    refine ⟨h1, lim_func rfl P_tree_walk (ks.length + 1) ?_, hfr, by simpa only [q, Bool.false_eq_true, if_false] using m3⟩
    rw [R_tree_walk]
    rw [hbox, hb] at e
    simp only [Zab,Zac,Zae,Zaf,Zag,Zaj,Zak,Zam,Zao,Zat,Zay,Zaz,Zbi,Zbk,Zbn,Zbo,Zby,Zcg,Zcr,Zct,Zcu,Zcv,Zcw,Zda,Zdb,Zdc,List.set_cons_zero,List.set_cons_succ,List.getD_cons_zero,List.getD_cons_succ,Option.bind_some,Option.map_some,Zds,Zdw,Zdy,Zea,List.getElem?_cons_zero,List.length_cons,List.length_nil,if_true,if_false,Nat.reduceAdd,Nat.reduceSub,Nat.reduceLeDiff,eq_self,List.length_map,List.length_cons,List.length_nil,List.replicate_succ,List.replicate_zero,List.cons_append,List.nil_append,aload,acells,getArr,part,get_new,List.drop_zero,List.drop_succ_cons,List.take_succ_cons,List.take_nil,List.cons_append,List.nil_append,List.set_cons_zero,cT,cTs_map,e,q,Bool.false_eq_true,resAll,resVals,resVal]
  case true =>
    rw [q] at e
    simp only [cond_true] at e
    simp only [q,if_true] at m3
    obtain ⟨h2, hc, k2, k3⟩ := hy.y _ h1 (.node s r ks) hok (by have := runP_cnt hy.cs (posts ks) x; rw [posts_len] at this; omega) m3
    have er : runP step (runP step x (posts ks)).1 [.node s r ks] = step (runP step x (posts ks)).1 (.node s r ks) := by
      simp only [runP]
      cases h : step (runP step x (posts ks)).1 (.node s r ks) with
      | mk a c => cases c <;> simp
    simp only [if_true,er]
    refine ⟨h2, lim_func rfl P_tree_walk (ks.length + 1) ?_, hfr.trans k2, k3⟩
    rw [R_tree_walk]
    rw [hbox] at e hbx1
    rw [hb] at e hbx1
    simp only [cT,cTs_map] at hc
    simp only [Zab,Zac,Zae,Zaf,Zag,Zai,Zaj,Zak,Zap,Zat,Zay,Zaz,Zbi,Zbk,Zbn,Zbo,Zby,Zcg,Zco,Zcq,Zcr,Zct,Zcu,Zcv,Zcw,Zcy,Zcz,Zda,Zdb,Zdc,List.set_cons_zero,List.set_cons_succ,List.getD_cons_zero,List.getD_cons_succ,Option.bind_some,Option.map_some,Zds,Zdw,Zdy,Zdz,Zea,List.getElem?_cons_zero,List.length_cons,List.length_nil,if_true,Nat.reduceAdd,Nat.reduceSub,Nat.reduceLeDiff,eq_self,List.length_map,List.length_cons,List.length_nil,List.replicate_succ,List.replicate_zero,List.cons_append,List.nil_append,aload,acells,getArr,part,get_new,List.drop_zero,List.drop_succ_cons,List.take_succ_cons,List.take_nil,List.cons_append,List.nil_append,List.set_cons_zero,cT,cTs_map,e,hbx1,hc,resAll,resVals,resVal]
end

/-- A loop that ranges over a function. -/
theorem e_range {R : Type} {call : CallT} {n : Nat} {F : Out → St → Option R} {fs : List Fr} {f : AX} {ps : List Nat} {asg body : ACode} {t : List AV} {h h' : AHeap} {g : FuncId} {first caps : List AV} {x : AV} {st : LS} {pend : Option Out} {t' : List AV} {ps' : List Nat} {asg' body' : ACode}
    (hf : f.ev t = .fn (.func g) first caps) (hc : call (.func g) (first ++ [.fn (.yield h.length) [] []] ++ caps) (h ++ [.loop .ready none t ps asg body]) = some (x, h')) (hl : h'[h.length]? = some (.loop st pend t' ps' asg' body')) (hs : st ≠ .busy) :
    eq1 call n F (.range f ps asg body) ⟨t, h⟩ fs = kr call n F fs (pend.getD .normal) ⟨t, h'.set h.length (.loop .exhausted pend t' ps' asg' body')⟩ := by
  simp only [eq1,ek,evalCode,hf,hc,hl,if_neg hs,Option.bind_some]

/-- A round. -/
theorem yield_run {l n : Nat} {args t t1 t2 : List AV} {ps : List Nat} {asg body : ACode} {h h1 h2 : AHeap} {out : Out} (hl : h[l]? = some (.loop .ready none t ps asg body)) (ha : args.length = ps.length)
    (h1e : evalCode (lim G0.cfg) n asg ⟨setAll t ps args, h⟩ = some (.normal, ⟨t1, h1⟩)) (hl1 : h1[l]? = some (.loop .ready none t ps asg body))
    (h2e : evalCode (lim G0.cfg) n body ⟨t1, h1.set l (.loop .busy none t ps asg body)⟩ = some (out, ⟨t2, h2⟩)) (hl2 : h2[l]? = some (.loop .busy none t ps asg body)) :
    lim G0.cfg (.yield l) args h = some (.bool (decide (out = .normal)), h2.set l (.loop (if out = .normal then .ready else .done) (if out = .normal then none else some out) t ps asg body)) := by
  refine lim_yield n ?_
  simp only [yieldCall,hl,ha,if_true,h1e,hl1,h2e,hl2]

/-! ### The iterator of a tree's nodes -/
theorem f_nodesIt (t : T) (h : AHeap) : lim G0.cfg (.func 34) [.agg (cT t)] h = some (.fn (.func 72) [] [.ptr h.length 0 0 0], h ++ [.arr 0 3 true [cT t]]) := by
  refine lim_func rfl P_tree_nodes 1 ?_
  rw [R_tree_nodes]
  have hct := cT_len t
  simp only [Zab,Zac,Zai,Zaj,Zak,Zaz,Zbi,Zbk,Zbn,Zbt,Zcr,Zct,Zcu,Zcv,Zcw,Zcy,Zcz,List.set_cons_zero,List.set_cons_succ,List.getD_cons_zero,List.getD_cons_succ,Option.map_some,Zea,List.length_cons,List.length_nil,if_true,Nat.reduceAdd,Nat.reduceSub,eq_self,List.length_cons,List.length_nil,List.replicate_succ,List.replicate_zero,List.cons_append,List.nil_append,List.cons_append,List.nil_append,List.set_cons_zero,hct,resAll,resVals,resVal]

theorem f_nodesIt_1 {X : Type} {N : Nat} {cnt : X → Nat} {l : Nat} {Inv Stop : X → AHeap → Prop} {step : X → T → X × Bool} (hy : Yld N cnt l Inv Stop step) (t : T) (ht : okT t) (x : X) (h : AHeap) (hN : cnt x + sizeN t ≤ N) (hI : Inv x h) (b : Nat) (hb : h[b]? = some (.arr 0 3 true [cT t])) :
    ∃ h', lim G0.cfg (.func 72) [.fn (.yield l) [] [], .ptr b 0 0 0] h = some (.tup [], h') ∧ WalkOk Inv Stop (runP step x (post t)) h h' := by
  obtain ⟨h', e, k⟩ := f_walk hy t ht x h hN hI
  refine ⟨h', lim_func rfl P_tree_nodes_1 1 ?_, k⟩
  rw [R_tree_nodes_1]
  have hct := cT_len t
  have htk : List.take 3 (cT t) = cT t := List.take_of_length_le (Nat.le_of_eq hct)
  simp only [Zab,Zaj,Zay,Zaz,Zbi,Zbk,Zbo,Zco,Zcp,Zcs,Zcu,Zcv,Zcw,Zcy,Zcz,List.set_cons_zero,List.set_cons_succ,List.getD_cons_zero,List.getD_cons_succ,Option.bind_some,Option.map_some,Zdz,List.getElem?_cons_zero,List.length_cons,List.length_nil,if_true,Nat.reduceAdd,Nat.reduceSub,Nat.reduceLeDiff,eq_self,List.length_cons,List.length_nil,List.replicate_succ,List.replicate_zero,List.cons_append,List.nil_append,aload,acells,getArr,part,List.drop_zero,List.cons_append,List.nil_append,List.set_cons_zero,hb,hct,htk,e,resAll,resVals]

end Go.Proofs.Ytkimloceaihplaa.Ai
