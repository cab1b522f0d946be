/- TreeSame: the law's own count of nodes; the fixed examples; the law. -/
import Derived.Test.YtkimloceaihplaaSa2
namespace Go.Proofs.Ytkimloceaihplaa.Ai
open Go Go.Proofs
set_option linter.unusedVariables false
set_option linter.unusedSimpArgs false

def I10 (m s0 r0 : Int) (ks : List (List AV)) (j : Nat) (s : St) : Prop := ∃ v : Int, ∃ y0 y3 y4 y7 y8 y9 y10 y11 y12 y13 y14 y15 y16 y17 y18 y19 y20 y21 y22 y23 y24 y25 y26 y27 y28 y29 y30, s = ⟨[y0, .int .i64 m, .ptr 0 0 0 0, y3, y4, .int .i64 v, .int .i64 j, y7, y8, y9, y10, y11, y12, y13, y14, y15, y16, y17, y18, y19, y20, y21, y22, y23, y24, y25, y26, y27, y28, y29, y30], [.arr 0 3 true [[.int .i64 s0, .int .i64 r0, .vsl false ks]]]⟩
def R10 (s : St) : Prop := ∃ v : Int, ∃ H y0 y1 y2 y3 y4 y6 y7 y8 y9 y10 y11 y12 y13 y14 y15 y16 y17 y18 y19 y20 y21 y22 y23 y24 y25 y26 y27 y28 y29 y30, s = ⟨[y0, y1, y2, y3, y4, .int .i64 v, y6, y7, y8, y9, y10, y11, y12, y13, y14, y15, y16, y17, y18, y19, y20, y21, y22, y23, y24, y25, y26, y27, y28, y29, y30], H⟩

theorem step10 {m s0 r0 : Int} {ks : List (List AV)} {c : List AV} {j : Nat} (hj : ks[j]? = some c) (hc : c.length = 3 ∧ c.all cellOk = true) (hb : j + 1 ≤ maxLen)
    (hq : ∀ mm : Int, ∃ v : Int, ∀ H, lim G0.cfg (.func 10) [.agg c, .int .i64 mm] H = some (.int .i64 v, H)) {s : St} (hs : I10 m s0 r0 ks j s) (n : Nat) :
    ∃ o s', evalCode (lim G0.cfg) n B10 s = some (o, s') ∧ (o = .normal ∧ I10 m s0 r0 ks (j + 1) s' ∨ o = .exit 0 ∧ R10 s') := by
  obtain ⟨v, y0, y3, y4, y7, y8, y9, y10, y11, y12, y13, y14, y15, y16, y17, y18, y19, y20, y21, y22, y23, y24, y25, y26, y27, y28, y29, y30, rfl⟩ := hs
  have hlt : j < ks.length := (List.getElem?_eq_some_iff.1 hj).1
  have hw : IntKind.i64.wrap ((j : Int) + 1) = ((j + 1 : Nat) : Int) := by rw [maxLen_eq] at hb; rw [w64 (by omega) (by omega)]; omega
  obtain ⟨c0, c1, c2, rfl, k0, k1, k2⟩ : ∃ c0 c1 c2, c = [c0, c1, c2] ∧ cellOk c0 = true ∧ cellOk c1 = true ∧ cellOk c2 = true := by
    match c, hc with
    | [a, b, d], h => exact ⟨a, b, d, rfl, by simpa using h.2⟩
  have hje : ks[j] = [c0, c1, c2] := (List.getElem?_eq_some_iff.1 hj).2
  obtain ⟨u, hu⟩ := hq (IntKind.i64.wrap (m - v))
  obtain ⟨R, hR⟩ : ∃ R, evalCode (lim G0.cfg) n B10 ⟨[y0, .int .i64 m, .ptr 0 0 0 0, y3, y4, .int .i64 v, .int .i64 j, y7, y8, y9, y10, y11, y12, y13, y14, y15, y16, y17, y18, y19, y20, y21, y22, y23, y24, y25, y26, y27, y28, y29, y30], [.arr 0 3 true [[.int .i64 s0, .int .i64 r0, .vsl false ks]]]⟩ = R := ⟨_, rfl⟩
  rw [hR]
  by_cases hv : v < m
  · simp [B10, evalCode, runOps, runOp, wanted, aop, put, AX.ev, avs, aload, acells, getArr, part, packV, cellsOf, aaddr, abin, aint, aun, aeq, alen, aindexAddr, astore, putCells, List.getElem?_append, List.set_append, hlt, hje, k0, k1, k2, hw, hu, hv] at hR
    subst hR
    exact ⟨_, _, rfl, .inl ⟨rfl, _, _, _, _, _, _, _, _, _, _, _, _, _, _, _, _, _, _, _, _, _, _, _, _, _, _, _, _, rfl⟩⟩
  · simp [B10, evalCode, runOps, runOp, wanted, aop, put, AX.ev, avs, aload, acells, getArr, part, packV, cellsOf, aaddr, abin, aint, aun, aeq, alen, aindexAddr, astore, putCells, List.getElem?_append, List.set_append, hlt, hje, k0, k1, k2, hw, hu, hv] at hR
    subst hR
    exact ⟨_, _, rfl, .inr ⟨rfl, _, _, _, _, _, _, _, _, _, _, _, _, _, _, _, _, _, _, _, _, _, _, _, _, _, _, _, _, _, _, _, _, rfl⟩⟩

theorem end10 {m s0 r0 : Int} {ks : List (List AV)} {j : Nat} (hj : j = ks.length) {s : St} (hs : I10 m s0 r0 ks j s) (n : Nat) : ∃ s', evalCode (lim G0.cfg) n B10 s = some (.exit 0, s') ∧ R10 s' := by
  obtain ⟨v, y0, y3, y4, y7, y8, y9, y10, y11, y12, y13, y14, y15, y16, y17, y18, y19, y20, y21, y22, y23, y24, y25, y26, y27, y28, y29, y30, rfl⟩ := hs
  obtain ⟨R, hR⟩ : ∃ R, evalCode (lim G0.cfg) n B10 ⟨[y0, .int .i64 m, .ptr 0 0 0 0, y3, y4, .int .i64 v, .int .i64 j, y7, y8, y9, y10, y11, y12, y13, y14, y15, y16, y17, y18, y19, y20, y21, y22, y23, y24, y25, y26, y27, y28, y29, y30], [.arr 0 3 true [[.int .i64 s0, .int .i64 r0, .vsl false ks]]]⟩ = R := ⟨_, rfl⟩
  rw [hR]
  simp [B10, evalCode, runOps, runOp, wanted, aop, put, AX.ev, avs, aload, acells, getArr, part, packV, cellsOf, aaddr, abin, aint, aun, aeq, alen, aindexAddr, astore, putCells, List.getElem?_append, List.set_append, hj] at hR
  subst hR
  exact ⟨_, rfl, _, _, _, _, _, _, _, _, _, _, _, _, _, _, _, _, _, _, _, _, _, _, _, _, _, _, _, _, _, _, _, _, rfl⟩

def Spec10 (a : T) : Prop := okT a → ∀ m : Int, ∃ v : Int, ∀ H, lim G0.cfg (.func 10) [.agg (cT a), .int .i64 m] H = some (.int .i64 v, H)

theorem loop10 {mm s0 r0 : Int} {ks : List T} (hm : ks.length ≤ maxLen) (hok : okTs ks) (hq : ∀ a ∈ ks, Spec10 a) (n : Nat) : ∀ (x : List T) (j : Nat) (s : St) (m : Nat), ks.drop j = x → x.length < m →
    I10 mm s0 r0 (cTs ks) j s → j ≤ ks.length → ∃ s', loopN (evalCode (lim G0.cfg) n B10) m s = some (.exit 0, s') ∧ R10 s'
  | [], j, s, m, hx, hlt, hs, hj => by
    obtain ⟨m, rfl⟩ : ∃ q, m = q + 1 := ⟨m - 1, by simp at hlt; omega⟩
    have hje : ks.length ≤ j := List.drop_eq_nil_iff.1 hx
    obtain ⟨s', h1, h2⟩ := end10 (j := j) (by rw [cTs_len]; omega) hs n
    exact ⟨s', by simp [loopN, h1], h2⟩
  | a :: x, j, s, m, hx, hlt, hs, hj => by
    obtain ⟨m, rfl⟩ : ∃ q, m = q + 1 := ⟨m - 1, by simp at hlt; omega⟩
    have hjl : j < ks.length := by
      rcases Nat.lt_or_ge j ks.length with h | h
      · exact h
      · rw [List.drop_eq_nil_iff.2 h] at hx; cases hx
    have hga : ks[j]? = some a := by
      have : (ks.drop j)[0]? = some a := by rw [hx]; rfl
      simpa using this
    have hxd : ks.drop (j + 1) = x := by rw [← List.tail_drop, hx]; rfl
    have ham : a ∈ ks := List.mem_of_getElem? hga
    obtain ⟨o, s1', h1, h2⟩ := step10 (ks := cTs ks) (j := j) (c := cT a) (by rw [cTs_get, hga]; rfl) (cT_ok a) (by omega) (hq a ham (okTs_get ks j a hok hga)) hs n
    rcases h2 with ⟨rfl, h2⟩ | ⟨rfl, h2⟩
    · obtain ⟨s2, h3, h4⟩ := loop10 hm hok hq n x (j + 1) s1' m hxd (by simp at hlt; omega) h2 (by omega)
      exact ⟨s2, by simp only [loopN, h1]; exact h3, h4⟩
    · exact ⟨s1', by simp only [loopN, h1], h2⟩

theorem fn10 {s0 r0 : Int} {ks : List T} (hm : ks.length ≤ maxLen) (hok : okTs ks) (hq : ∀ a ∈ ks, Spec10 a) (m : Int) :
    ∃ v : Int, ∀ H, lim G0.cfg (.func 10) [.agg [.int .i64 s0, .int .i64 r0, .vsl false (cTs ks)], .int .i64 m] H = some (.int .i64 v, H) := by
  have run : ∃ (v : Int) (h' : AHeap), runFn (lim G0.cfg) (ks.length + 1) A10 [.agg [.int .i64 s0, .int .i64 r0, .vsl false (cTs ks)], .int .i64 m] [] = some (.int .i64 v, h') := by
    obtain ⟨f, hf, hR⟩ := skolem (I10 m s0 r0 (cTs ks) 0) (fun s s' => loopN (evalCode (lim G0.cfg) (ks.length + 1) B10) (ks.length + 1) s = some (.exit 0, s')) R10 ⟨List.replicate 5 AV.un ++ [.int .i64 0] ++ List.replicate 25 AV.un, []⟩ ⟨0, _, _, _, _, _, _, _, _, _, _, _, _, _, _, _, _, _, _, _, _, _, _, _, _, _, _, _, _, _, _, _, rfl⟩
      (fun s hs => loop10 (ks := ks) hm hok hq (ks.length + 1) ks 0 s (ks.length + 1) rfl (by omega) hs (by omega))
    simp [runFn, A10, evalCode, runOps, runOp, wanted, aop, put, AX.ev, avs, aload, acells, getArr, part, packV, cellsOf, aaddr, abin, aint, aun, aeq, alen, aindexAddr, astore, putCells, List.getElem?_append, List.set_append, cTs_len]
    rw [hf _ ?hI]
    case hI => exact ⟨_, _, _, _, _, _, _, _, _, _, _, _, _, _, _, _, _, _, _, _, _, _, _, _, _, _, _, _, rfl⟩
    generalize hx : f _ = s'
    have hs' : R10 s' := by rw [← hx]; exact hR _
    obtain ⟨v, H, y0, y1, y2, y3, y4, y6, y7, y8, y9, y10, y11, y12, y13, y14, y15, y16, y17, y18, y19, y20, y21, y22, y23, y24, y25, y26, y27, y28, y29, y30, rfl⟩ := hs'
    exact ⟨v, H, by simp [resAll, resVals, resVal]⟩
  obtain ⟨v, h', hr⟩ := run
  exact ⟨v, fun H => lim_simple rfl P10 _ (fun h => by simp [mapO, freeze]) hr (by rfl) H⟩

mutual
theorem nodes10 : ∀ a : T, Spec10 a
  | .node s r ks => fun hok m => fn10 hok.1 hok.2 (nodes10s ks) m
theorem nodes10s : ∀ (ks : List T) (a : T), a ∈ ks → Spec10 a
  | [], a, h => by cases h
  | k :: ks, a, h => by
    by_cases e : a = k
    · rw [e]; exact nodes10 k
    · exact nodes10s ks a (by rcases List.mem_cons.1 h with h | h; exact absurd h e; exact h)
end

/-! ### The law -/
mutual
theorem eqT_self : ∀ a : T, eqT a a = true
  | .node s r ks => by simp [eqT, eqTs_self ks]
theorem eqTs_self : ∀ ks : List T, eqTs ks ks = true
  | [] => rfl
  | a :: ks => by simp [eqTs, eqT_self a, eqTs_self ks]
end

theorem law4 (hk : ∀ H, lim G0.cfg (.func 11) [] H = some (.bool true, H)) {a b : T} (ha : okT a) (hb : okT b) (H : AHeap) : lim G0.cfg (.func 4) [.agg (cT a), .agg (cT b)] H = some (.bool true, H) := by
  have run : ∃ h', runFn (lim G0.cfg) 1 A4 [.agg (cT a), .agg (cT b)] [] = some (.bool true, h') := by
    obtain ⟨v, hv⟩ := nodes10 a ha 300
    obtain ⟨u, hu⟩ := nodes10 b hb 300
    have h1 := same23 a ha b
    have h2 := same24 a ha b
    have h3 := same23 a ha a
    rw [eqT_self] at h3
    obtain ⟨s0, r0, ks0⟩ := a
    obtain ⟨s1, r1, ks1⟩ := b
    simp only [cT] at *
    by_cases c1 : 300 ≤ v
    · simp [runFn, A4, evalCode, runOps, runOp, wanted, aop, put, AX.ev, avs, aload, acells, getArr, part, packV, cellsOf, aaddr, abin, aint, aun, aeq, alen, aindexAddr, astore, putCells, List.getElem?_append, List.set_append, resAll, resVals, resVal, hv, hu, h1, h2, h3, hk, c1]
    · by_cases c2 : 300 ≤ u
      · simp [runFn, A4, evalCode, runOps, runOp, wanted, aop, put, AX.ev, avs, aload, acells, getArr, part, packV, cellsOf, aaddr, abin, aint, aun, aeq, alen, aindexAddr, astore, putCells, List.getElem?_append, List.set_append, resAll, resVals, resVal, hv, hu, h1, h2, h3, hk, c1, c2]
      · simp [runFn, A4, evalCode, runOps, runOp, wanted, aop, put, AX.ev, avs, aload, acells, getArr, part, packV, cellsOf, aaddr, abin, aint, aun, aeq, alen, aindexAddr, astore, putCells, List.getElem?_append, List.set_append, resAll, resVals, resVal, hv, hu, h1, h2, h3, hk, c1, c2]
  obtain ⟨h', hr⟩ := run
  refine lim_simple rfl P4 _ (fun h => ?_) hr (by rfl) H
  obtain ⟨s0, r0, ks0⟩ := a
  obtain ⟨s1, r1, ks1⟩ := b
  simp [mapO, cT, fr3]
end Go.Proofs.Ytkimloceaihplaa.Ai
