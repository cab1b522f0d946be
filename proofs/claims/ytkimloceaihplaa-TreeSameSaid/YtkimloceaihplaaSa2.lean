/- TreeSame: the functions on trees, walked by the interpreter. -/
import Derived.Test.YtkimloceaihplaaSa1
namespace Go.Proofs.Ytkimloceaihplaa.Ai
open Go Go.Proofs
set_option linter.unusedVariables false
set_option linter.unusedSimpArgs false

inductive T where
  | node (s r : Int) (ks : List T)

mutual
def cT : T → List AV
  | .node s r ks => [.int .i64 s, .int .i64 r, .vsl false (cTs ks)]
def cTs : List T → List (List AV)
  | [] => []
  | t :: r => cT t :: cTs r
end
mutual
def eqT : T → T → Bool
  | .node s r ks, .node s' r' ks' => s == s' && r == r' && eqTs ks ks'
def eqTs : List T → List T → Bool
  | [], [] => true
  | a :: x, b :: y => eqT a b && eqTs x y
  | _, _ => false
end
mutual
def okT : T → Prop
  | .node _ _ ks => ks.length ≤ maxLen ∧ okTs ks
def okTs : List T → Prop
  | [] => True
  | t :: r => okT t ∧ okTs r
end

theorem cTs_len : ∀ ks, (cTs ks).length = ks.length
  | [] => rfl
  | t :: r => by simp [cTs, cTs_len r]
theorem cTs_get : ∀ (ks : List T) (j : Nat), (cTs ks)[j]? = (ks[j]?).map cT
  | [], j => by simp [cTs]
  | t :: r, 0 => by simp [cTs]
  | t :: r, j + 1 => by simp [cTs, cTs_get r j]
theorem okTs_get : ∀ (ks : List T) (j : Nat) (t : T), okTs ks → ks[j]? = some t → okT t
  | t :: r, 0, u, h, e => by simp at e; subst e; exact h.1
  | t :: r, j + 1, u, h, e => okTs_get r j u h.2 (by simpa using e)
  | [], j, u, h, e => by simp at e
theorem cT_len (t : T) : (cT t).length = 3 := by cases t; rfl
theorem maxLen_eq : maxLen = 9223372036854775807 := by decide +kernel

theorem w64 {n : Int} (h0 : 0 ≤ n) (h1 : n ≤ 9223372036854775807) : IntKind.i64.wrap n = n := by rw [IntKind.wrap_i64]; omega

def I40 (ks ks' : List (List AV)) (j : Nat) (s : St) : Prop := ∃ H y3 y4 y5 y7 y8 y9 y10 y11 y12 y13 y14 y18 y19 y20 y21 y22 y23 y24 y25 y26 y27 y28 y29 y30 y31, s = ⟨[.vsl false ks, .vsl false ks', .fn (.func 23) [] [], y3, y4, y5, .bool false, y7, y8, y9, y10, y11, y12, y13, y14, .vsl false ks, .int .i64 ks.length, .int .i64 j, y18, y19, y20, y21, y22, y23, y24, y25, y26, y27, y28, y29, y30, y31], H⟩
def R40 (s : St) : Prop := ∃ H y0 y1 y2 y3 y4 y5 y7 y8 y9 y10 y11 y12 y13 y14 y15 y16 y17 y18 y19 y20 y21 y22 y23 y24 y25 y26 y27 y28 y29 y30 y31, s = ⟨[y0, y1, y2, y3, y4, y5, .bool false, y7, y8, y9, y10, y11, y12, y13, y14, y15, y16, y17, y18, y19, y20, y21, y22, y23, y24, y25, y26, y27, y28, y29, y30, y31], H⟩

theorem step40 {ks ks' : List (List AV)} {c c' : List AV} {j : Nat} (hj : ks[j]? = some c) (hj' : ks'[j]? = some c') (hc : c.length = 3 ∧ c.all cellOk = true) (hc' : c'.length = 3 ∧ c'.all cellOk = true) (hb : j + 1 ≤ maxLen) {q : Bool}
    (hq : ∀ H, lim G0.cfg (.func 23) [.agg c, .agg c'] H = some (.bool q, H)) {s : St} (hs : I40 ks ks' j s) (n : Nat) :
    ∃ s', evalCode (lim G0.cfg) n B40 s = some (if q then .normal else .ret, s') ∧ if q then I40 ks ks' (j + 1) s' else R40 s' := by
  obtain ⟨H, y3, y4, y5, y7, y8, y9, y10, y11, y12, y13, y14, y18, y19, y20, y21, y22, y23, y24, y25, y26, y27, y28, y29, y30, y31, rfl⟩ := hs
  have hlt : j < ks.length := (List.getElem?_eq_some_iff.1 hj).1
  have hw : IntKind.i64.wrap ((j : Int) + 1) = ((j + 1 : Nat) : Int) := by rw [maxLen_eq] at hb; rw [w64 (by omega) (by omega)]; omega
  have hlt' : j < ks'.length := (List.getElem?_eq_some_iff.1 hj').1
  obtain ⟨c0, c1, c2, rfl, k0, k1, k2⟩ : ∃ c0 c1 c2, c = [c0, c1, c2] ∧ cellOk c0 = true ∧ cellOk c1 = true ∧ cellOk c2 = true := by
    match c, hc with
    | [a, b, d], h => exact ⟨a, b, d, rfl, by simpa using h.2⟩
  obtain ⟨d0, d1, d2, rfl, l0, l1, l2⟩ : ∃ c0 c1 c2, c' = [c0, c1, c2] ∧ cellOk c0 = true ∧ cellOk c1 = true ∧ cellOk c2 = true := by
    match c', hc' with
    | [a, b, d], h => exact ⟨a, b, d, rfl, by simpa using h.2⟩
  have hje : ks[j] = [c0, c1, c2] := (List.getElem?_eq_some_iff.1 hj).2
  have hje' : ks'[j] = [d0, d1, d2] := (List.getElem?_eq_some_iff.1 hj').2
  obtain ⟨R, hR⟩ : ∃ R, evalCode (lim G0.cfg) n B40 ⟨[.vsl false ks, .vsl false ks', .fn (.func 23) [] [], y3, y4, y5, .bool false, y7, y8, y9, y10, y11, y12, y13, y14, .vsl false ks, .int .i64 ks.length, .int .i64 j, y18, y19, y20, y21, y22, y23, y24, y25, y26, y27, y28, y29, y30, y31], H⟩ = R := ⟨_, rfl⟩
  rw [hR]
  cases q
  · simp [B40, evalCode, runOps, runOp, wanted, aop, put, AX.ev, avs, aload, acells, getArr, part, packV, cellsOf, aaddr, abin, aint, aun, aeq, alen, aindexAddr, astore, putCells, List.getElem?_append, List.set_append, hlt, hlt', hje, hje', k0, k1, k2, l0, l1, l2, hw, hq] at hR
    subst hR
    exact ⟨_, rfl, _, _, _, _, _, _, _, _, _, _, _, _, _, _, _, _, _, _, _, _, _, _, _, _, _, _, _, _, _, _, _, _, rfl⟩
  · simp [B40, evalCode, runOps, runOp, wanted, aop, put, AX.ev, avs, aload, acells, getArr, part, packV, cellsOf, aaddr, abin, aint, aun, aeq, alen, aindexAddr, astore, putCells, List.getElem?_append, List.set_append, hlt, hlt', hje, hje', k0, k1, k2, l0, l1, l2, hw, hq] at hR
    subst hR
    exact ⟨_, rfl, _, _, _, _, _, _, _, _, _, _, _, _, _, _, _, _, _, _, _, _, _, _, _, _, _, _, rfl⟩

theorem end40 {ks ks' : List (List AV)} {j : Nat} (hj : j = ks.length) {s : St} (hs : I40 ks ks' j s) (n : Nat) : ∃ s', evalCode (lim G0.cfg) n B40 s = some (.exit 0, s') ∧ R40 s' := by
  obtain ⟨H, y3, y4, y5, y7, y8, y9, y10, y11, y12, y13, y14, y18, y19, y20, y21, y22, y23, y24, y25, y26, y27, y28, y29, y30, y31, rfl⟩ := hs
  obtain ⟨R, hR⟩ : ∃ R, evalCode (lim G0.cfg) n B40 ⟨[.vsl false ks, .vsl false ks', .fn (.func 23) [] [], y3, y4, y5, .bool false, y7, y8, y9, y10, y11, y12, y13, y14, .vsl false ks, .int .i64 ks.length, .int .i64 j, y18, y19, y20, y21, y22, y23, y24, y25, y26, y27, y28, y29, y30, y31], H⟩ = R := ⟨_, rfl⟩
  rw [hR]
  simp [B40, evalCode, runOps, runOp, wanted, aop, put, AX.ev, avs, aload, acells, getArr, part, packV, cellsOf, aaddr, abin, aint, aun, aeq, alen, aindexAddr, astore, putCells, List.getElem?_append, List.set_append, hj] at hR
  subst hR
  exact ⟨_, rfl, _, _, _, _, _, _, _, _, _, _, _, _, _, _, _, _, _, _, _, _, _, _, _, _, _, _, _, _, _, _, _, _, rfl⟩

def Spec23 (a : T) : Prop := okT a → ∀ b, ∀ H, lim G0.cfg (.func 23) [.agg (cT a), .agg (cT b)] H = some (.bool (eqT a b), H)

theorem cT_ok (t : T) : (cT t).length = 3 ∧ (cT t).all cellOk = true := by cases t; exact ⟨rfl, rfl⟩

theorem loop40 {ks ks' : List T} (hl : ks.length = ks'.length) (hm : ks.length ≤ maxLen) (hok : okTs ks) (hq : ∀ a ∈ ks, Spec23 a) (n : Nat) : ∀ (x x' : List T) (j : Nat) (s : St) (m : Nat), ks.drop j = x → ks'.drop j = x' → x.length < m →
    I40 (cTs ks) (cTs ks') j s → j ≤ ks.length → ∃ s', loopN (evalCode (lim G0.cfg) n B40) m s = some (if eqTs x x' then .exit 0 else .ret, s') ∧ R40 s'
  | [], x', j, s, m, hx, hx', hlt, hs, hj => by
    obtain ⟨m, rfl⟩ : ∃ q, m = q + 1 := ⟨m - 1, by simp at hlt; omega⟩
    have hje : ks.length ≤ j := List.drop_eq_nil_iff.1 hx
    have hx2 : x' = [] := by rw [← hx']; exact List.drop_eq_nil_iff.2 (by omega)
    subst hx2
    obtain ⟨s', h1, h2⟩ := end40 (j := j) (by rw [cTs_len]; omega) hs n
    exact ⟨s', by simp [loopN, h1, eqTs], h2⟩
  | a :: x, x', j, s, m, hx, hx', hlt, hs, hj => by
    obtain ⟨m, rfl⟩ : ∃ q, m = q + 1 := ⟨m - 1, by simp at hlt; omega⟩
    have hjl : j < ks.length := by
      rcases Nat.lt_or_ge j ks.length with h | h
      · exact h
      · rw [List.drop_eq_nil_iff.2 h] at hx; cases hx
    have hga : ks[j]? = some a := by
      have : (ks.drop j)[0]? = some a := by rw [hx]; rfl
      simpa using this
    obtain ⟨b, hgb⟩ : ∃ b, ks'[j]? = some b := ⟨ks'[j], by simp [hl ▸ hjl]⟩
    have hxd : ks.drop (j + 1) = x := by rw [← List.tail_drop, hx]; rfl
    have hxb : x' = b :: ks'.drop (j + 1) := by
      rw [← hx', List.drop_eq_getElem_cons (hl ▸ hjl)]
      congr 1
      exact (List.getElem?_eq_some_iff.1 hgb).2
    have ham : a ∈ ks := List.mem_of_getElem? hga
    obtain ⟨s1, h1, h2⟩ := step40 (ks := cTs ks) (ks' := cTs ks') (j := j) (c := cT a) (c' := cT b) (by rw [cTs_get, hga]; rfl) (by rw [cTs_get, hgb]; rfl) (cT_ok a) (cT_ok b) (by omega) (hq a ham (okTs_get ks j a hok hga) b) hs n
    subst hxb
    simp only [loopN, h1, eqTs]
    rcases Bool.eq_false_or_eq_true (eqT a b) with hab | hab
    case inr =>
      simp only [hab, Bool.false_eq_true, if_false] at h2 ⊢
      exact ⟨s1, by simp, h2⟩
    case inl =>
      simp only [hab, if_true] at h2 ⊢
      obtain ⟨s2, h3, h4⟩ := loop40 hl hm hok hq n x (ks'.drop (j + 1)) (j + 1) s1 m hxd rfl (by simp at hlt; omega) h2 (by omega)
      exact ⟨s2, by simpa using h3, h4⟩

theorem lim_simple {g : Nat} (hp : G0.cfg.pu g = true) {fn : AFn} (hP : G0.cfg.P g = some fn) (n : Nat) {a : List AV} (ha : ∀ h, mapO (freeze h 60) a = some (a.map fun x => (x, true))) {x y : AV} {c : Bool} {h' : AHeap} (hr : runFn (lim G0.cfg) n fn a [] = some (x, h')) (hf : freeze h' 60 x = some (y, c)) (H : AHeap) :
    lim G0.cfg (.func g) a H = some (y, H) := by
  refine lim_pure hp n ?_
  unfold pureCall
  have e1 : (a.map fun x => (x, true)).map (·.1) = a := by rw [List.map_map]; exact List.map_id a
  have e2 : (a.map fun x => (x, true)).all (·.2) = true := by simp
  rw [ha H]
  simp only [e1, e2, Bool.true_or, if_true, pureRes, hP, hr, hf, Option.map_some]
  rfl

theorem eqTs_len : ∀ {x y : List T}, x.length ≠ y.length → eqTs x y = false
  | [], [], h => by simp at h
  | [], _ :: _, _ => rfl
  | _ :: _, [], _ => rfl
  | a :: x, b :: y, h => by
    have := eqTs_len (x := x) (y := y) (by simpa using h)
    simp [eqTs, this]

theorem skolem (I : St → Prop) (X : St → St → Prop) (R : St → Prop) (r0 : St) (hr0 : R r0) (key : ∀ s, I s → ∃ s', X s s' ∧ R s') : ∃ f : St → St, (∀ s, I s → X s (f s)) ∧ ∀ s, R (f s) := by
  have h : ∀ s, ∃ s', (I s → X s s') ∧ R s' := fun s => by
    by_cases hs : I s
    · obtain ⟨s', h1, h2⟩ := key s hs
      exact ⟨s', fun _ => h1, h2⟩
    · exact ⟨r0, fun h => absurd h hs, hr0⟩
  obtain ⟨f, hf⟩ := Classical.axiomOfChoice h
  exact ⟨f, fun s => (hf s).1, fun s => (hf s).2⟩

def r40 : St := ⟨List.replicate 6 AV.un ++ [.bool false] ++ List.replicate 25 AV.un, []⟩
theorem r40_ok : R40 r40 := ⟨_, _, _, _, _, _, _, _, _, _, _, _, _, _, _, _, _, _, _, _, _, _, _, _, _, _, _, _, _, _, _, _, rfl⟩

theorem fn40 {ks ks' : List T} (hm : ks.length ≤ maxLen) (hok : okTs ks) (hq : ∀ a ∈ ks, Spec23 a) (H : AHeap) :
    lim G0.cfg (.func 40) [.vsl false (cTs ks), .vsl false (cTs ks'), .fn (.func 23) [] []] H = some (.bool (eqTs ks ks'), H) := by
  have run : ∃ h', runFn (lim G0.cfg) (ks.length + 1) A40 [.vsl false (cTs ks), .vsl false (cTs ks'), .fn (.func 23) [] []] [] = some (.bool (eqTs ks ks'), h') := by
    by_cases hl : ks.length = ks'.length
    · obtain ⟨f, hf, hR⟩ := skolem (I40 (cTs ks) (cTs ks') 0) (fun s s' => loopN (evalCode (lim G0.cfg) (ks'.length + 1) B40) (ks'.length + 1) s = some (if eqTs ks ks' then .exit 0 else .ret, s')) R40 r40 r40_ok
        (fun s hs => loop40 (ks := ks) (ks' := ks') hl hm hok hq (ks'.length + 1) ks ks' 0 s (ks'.length + 1) rfl rfl (by omega) hs (by omega))
      have hR6 : ∀ s, (f s).t[6]? = some (.bool false) ∧ (f s).t.length = 32 := fun s => by
        obtain ⟨H, y0, y1, y2, y3, y4, y5, y7, y8, y9, y10, y11, y12, y13, y14, y15, y16, y17, y18, y19, y20, y21, y22, y23, y24, y25, y26, y27, y28, y29, y30, y31, e⟩ := hR s
        rw [e]; exact ⟨rfl, rfl⟩
      have hR7 : ∀ s (h : 6 < (f s).t.length), (f s).t[6] = .bool false := fun s h => (List.getElem?_eq_some_iff.1 (hR6 s).1).2
      simp [runFn, A40, evalCode, runOps, runOp, wanted, aop, put, AX.ev, avs, aload, acells, getArr, part, packV, cellsOf, aaddr, abin, aint, aun, aeq, alen, aindexAddr, astore, putCells, List.getElem?_append, List.set_append, cTs_len, hl]
      rw [hf _ ?hI]
      case hI => rw [← hl, ← cTs_len ks]; exact ⟨_, _, _, _, _, _, _, _, _, _, _, _, _, _, _, _, _, _, _, _, _, _, _, _, _, _, rfl⟩
      cases eqTs ks ks' <;> simp [resAll, resVals, resVal, hR6, hR7]
    · have hl2 : ((ks.length : Int) != (ks'.length : Int)) = true := by simp; omega
      simp [runFn, A40, evalCode, runOps, runOp, wanted, aop, put, AX.ev, avs, aload, acells, getArr, part, packV, cellsOf, aaddr, abin, aint, aun, aeq, alen, aindexAddr, astore, putCells, List.getElem?_append, List.set_append, resAll, resVals, resVal, cTs_len, hl2, eqTs_len hl]
  obtain ⟨h', hr⟩ := run
  exact lim_simple rfl P40 _ (fun h => by simp [mapO, freeze]) hr (by rfl) H

theorem fr3 (s r : Int) (l : List (List AV)) (h : AHeap) : freeze h 60 (.agg [.int .i64 s, .int .i64 r, .vsl false l]) = some (.agg [.int .i64 s, .int .i64 r, .vsl false l], true) := by simp [freeze, mapO]

theorem fn23 {s r s' r' : Int} {ks ks' : List T} {q : Bool} (hq : ∀ H, lim G0.cfg (.func 40) [.vsl false (cTs ks), .vsl false (cTs ks'), .fn (.func 23) [] []] H = some (.bool q, H)) (H : AHeap) :
    lim G0.cfg (.func 23) [.agg [.int .i64 s, .int .i64 r, .vsl false (cTs ks)], .agg [.int .i64 s', .int .i64 r', .vsl false (cTs ks')]] H = some (.bool (s == s' && r == r' && q), H) := by
  have run : ∃ h', runFn (lim G0.cfg) 1 A23 [.agg [.int .i64 s, .int .i64 r, .vsl false (cTs ks)], .agg [.int .i64 s', .int .i64 r', .vsl false (cTs ks')]] [] = some (.bool (s == s' && r == r' && q), h') := by
    by_cases h1 : s = s'
    · by_cases h2 : r = r'
      · subst h1 h2
        simp [runFn, A23, evalCode, runOps, runOp, wanted, aop, put, AX.ev, avs, aload, acells, getArr, part, packV, cellsOf, aaddr, abin, aint, aun, aeq, alen, aindexAddr, astore, putCells, List.getElem?_append, List.set_append, resAll, resVals, resVal, hq]
      · subst h1
        have h2' : (r == r') = false := by simp [h2]
        simp [runFn, A23, evalCode, runOps, runOp, wanted, aop, put, AX.ev, avs, aload, acells, getArr, part, packV, cellsOf, aaddr, abin, aint, aun, aeq, alen, aindexAddr, astore, putCells, List.getElem?_append, List.set_append, resAll, resVals, resVal, h2', h2]
    · have h1' : (s == s') = false := by simp [h1]
      simp [runFn, A23, evalCode, runOps, runOp, wanted, aop, put, AX.ev, avs, aload, acells, getArr, part, packV, cellsOf, aaddr, abin, aint, aun, aeq, alen, aindexAddr, astore, putCells, List.getElem?_append, List.set_append, resAll, resVals, resVal, h1', h1]
  obtain ⟨h', hr⟩ := run
  exact lim_simple rfl P23 _ (fun h => by simp [mapO, fr3]) hr (by rfl) H

mutual
theorem same23 : ∀ a : T, Spec23 a
  | .node s r ks => fun hok b H => by
    obtain ⟨s', r', ks'⟩ := b
    simp only [cT, eqT]
    exact fn23 (fun H => fn40 hok.1 hok.2 (same23s ks) H) H
theorem same23s : ∀ (ks : List T) (a : T), a ∈ ks → Spec23 a
  | [], a, h => by cases h
  | k :: ks, a, h => by
    by_cases e : a = k
    · rw [e]; exact same23 k
    · exact same23s ks a (by rcases List.mem_cons.1 h with h | h; exact absurd h e; exact h)
end

/-! ### The reference -/
def I24 (s0 r0 s1 r1 : Int) (ks ks' : List (List AV)) (j : Nat) (s : St) : Prop := ∃ y0 y1 y6 y7 y8 y9 y10 y11 y12 y13 y14 y15 y16 y17 y18 y19 y20 y21 y22 y23 y24 y25 y26 y27 y28 y29 y30 y31 y32 y33 y34 y35 y36 y37 y38 y39 y40 y41 y42 y43 y44 y45, s = ⟨[y0, y1, .ptr 0 0 0 0, .ptr 1 0 0 0, .bool false, .int .i64 j, y6, y7, y8, y9, y10, y11, y12, y13, y14, y15, y16, y17, y18, y19, y20, y21, y22, y23, y24, y25, y26, y27, y28, y29, y30, y31, y32, y33, y34, y35, y36, y37, y38, y39, y40, y41, y42, y43, y44, y45], [.arr 0 3 true [[.int .i64 s0, .int .i64 r0, .vsl false ks]], .arr 0 3 true [[.int .i64 s1, .int .i64 r1, .vsl false ks']]]⟩
def R24 (s : St) : Prop := ∃ H y0 y1 y2 y3 y5 y6 y7 y8 y9 y10 y11 y12 y13 y14 y15 y16 y17 y18 y19 y20 y21 y22 y23 y24 y25 y26 y27 y28 y29 y30 y31 y32 y33 y34 y35 y36 y37 y38 y39 y40 y41 y42 y43 y44 y45, s = ⟨[y0, y1, y2, y3, .bool false, y5, y6, y7, y8, y9, y10, y11, y12, y13, y14, y15, y16, y17, y18, y19, y20, y21, y22, y23, y24, y25, y26, y27, y28, y29, y30, y31, y32, y33, y34, y35, y36, y37, y38, y39, y40, y41, y42, y43, y44, y45], H⟩

theorem step24 {s0 r0 s1 r1 : Int} {ks ks' : List (List AV)} {c c' : List AV} {j : Nat} (hj : ks[j]? = some c) (hj' : ks'[j]? = some c') (hc : c.length = 3 ∧ c.all cellOk = true) (hc' : c'.length = 3 ∧ c'.all cellOk = true) (hb : j + 1 ≤ maxLen) {q : Bool}
    (hq : ∀ H, lim G0.cfg (.func 24) [.agg c, .agg c'] H = some (.bool q, H)) {s : St} (hs : I24 s0 r0 s1 r1 ks ks' j s) (n : Nat) :
    ∃ s', evalCode (lim G0.cfg) n B24 s = some (if q then .normal else .ret, s') ∧ if q then I24 s0 r0 s1 r1 ks ks' (j + 1) s' else R24 s' := by
  obtain ⟨y0, y1, y6, y7, y8, y9, y10, y11, y12, y13, y14, y15, y16, y17, y18, y19, y20, y21, y22, y23, y24, y25, y26, y27, y28, y29, y30, y31, y32, y33, y34, y35, y36, y37, y38, y39, y40, y41, y42, y43, y44, y45, rfl⟩ := hs
  have hlt : j < ks.length := (List.getElem?_eq_some_iff.1 hj).1
  have hw : IntKind.i64.wrap ((j : Int) + 1) = ((j + 1 : Nat) : Int) := by rw [maxLen_eq] at hb; rw [w64 (by omega) (by omega)]; omega
  have hlt' : j < ks'.length := (List.getElem?_eq_some_iff.1 hj').1
  obtain ⟨c0, c1, c2, rfl, k0, k1, k2⟩ : ∃ c0 c1 c2, c = [c0, c1, c2] ∧ cellOk c0 = true ∧ cellOk c1 = true ∧ cellOk c2 = true := by
    match c, hc with
    | [a, b, d], h => exact ⟨a, b, d, rfl, by simpa using h.2⟩
  obtain ⟨d0, d1, d2, rfl, l0, l1, l2⟩ : ∃ c0 c1 c2, c' = [c0, c1, c2] ∧ cellOk c0 = true ∧ cellOk c1 = true ∧ cellOk c2 = true := by
    match c', hc' with
    | [a, b, d], h => exact ⟨a, b, d, rfl, by simpa using h.2⟩
  have hje : ks[j] = [c0, c1, c2] := (List.getElem?_eq_some_iff.1 hj).2
  have hje' : ks'[j] = [d0, d1, d2] := (List.getElem?_eq_some_iff.1 hj').2
  obtain ⟨R, hR⟩ : ∃ R, evalCode (lim G0.cfg) n B24 ⟨[y0, y1, .ptr 0 0 0 0, .ptr 1 0 0 0, .bool false, .int .i64 j, y6, y7, y8, y9, y10, y11, y12, y13, y14, y15, y16, y17, y18, y19, y20, y21, y22, y23, y24, y25, y26, y27, y28, y29, y30, y31, y32, y33, y34, y35, y36, y37, y38, y39, y40, y41, y42, y43, y44, y45], [.arr 0 3 true [[.int .i64 s0, .int .i64 r0, .vsl false ks]], .arr 0 3 true [[.int .i64 s1, .int .i64 r1, .vsl false ks']]]⟩ = R := ⟨_, rfl⟩
  rw [hR]
  cases q
  · simp [B24, evalCode, runOps, runOp, wanted, aop, put, AX.ev, avs, aload, acells, getArr, part, packV, cellsOf, aaddr, abin, aint, aun, aeq, alen, aindexAddr, astore, putCells, List.getElem?_append, List.set_append, hlt, hlt', hje, hje', k0, k1, k2, l0, l1, l2, hw, hq] at hR
    subst hR
    exact ⟨_, rfl, _, _, _, _, _, _, _, _, _, _, _, _, _, _, _, _, _, _, _, _, _, _, _, _, _, _, _, _, _, _, _, _, _, _, _, _, _, _, _, _, _, _, _, _, _, _, rfl⟩
  · simp [B24, evalCode, runOps, runOp, wanted, aop, put, AX.ev, avs, aload, acells, getArr, part, packV, cellsOf, aaddr, abin, aint, aun, aeq, alen, aindexAddr, astore, putCells, List.getElem?_append, List.set_append, hlt, hlt', hje, hje', k0, k1, k2, l0, l1, l2, hw, hq] at hR
    subst hR
    exact ⟨_, rfl, _, _, _, _, _, _, _, _, _, _, _, _, _, _, _, _, _, _, _, _, _, _, _, _, _, _, _, _, _, _, _, _, _, _, _, _, _, _, _, _, _, _, rfl⟩

theorem end24 {s0 r0 s1 r1 : Int} {ks ks' : List (List AV)} {j : Nat} (hj : j = ks.length) {s : St} (hs : I24 s0 r0 s1 r1 ks ks' j s) (n : Nat) : ∃ s', evalCode (lim G0.cfg) n B24 s = some (.exit 0, s') ∧ R24 s' := by
  obtain ⟨y0, y1, y6, y7, y8, y9, y10, y11, y12, y13, y14, y15, y16, y17, y18, y19, y20, y21, y22, y23, y24, y25, y26, y27, y28, y29, y30, y31, y32, y33, y34, y35, y36, y37, y38, y39, y40, y41, y42, y43, y44, y45, rfl⟩ := hs
  obtain ⟨R, hR⟩ : ∃ R, evalCode (lim G0.cfg) n B24 ⟨[y0, y1, .ptr 0 0 0 0, .ptr 1 0 0 0, .bool false, .int .i64 j, y6, y7, y8, y9, y10, y11, y12, y13, y14, y15, y16, y17, y18, y19, y20, y21, y22, y23, y24, y25, y26, y27, y28, y29, y30, y31, y32, y33, y34, y35, y36, y37, y38, y39, y40, y41, y42, y43, y44, y45], [.arr 0 3 true [[.int .i64 s0, .int .i64 r0, .vsl false ks]], .arr 0 3 true [[.int .i64 s1, .int .i64 r1, .vsl false ks']]]⟩ = R := ⟨_, rfl⟩
  rw [hR]
  simp [B24, evalCode, runOps, runOp, wanted, aop, put, AX.ev, avs, aload, acells, getArr, part, packV, cellsOf, aaddr, abin, aint, aun, aeq, alen, aindexAddr, astore, putCells, List.getElem?_append, List.set_append, hj] at hR
  subst hR
  exact ⟨_, rfl, _, _, _, _, _, _, _, _, _, _, _, _, _, _, _, _, _, _, _, _, _, _, _, _, _, _, _, _, _, _, _, _, _, _, _, _, _, _, _, _, _, _, _, _, _, _, rfl⟩

def Spec24 (a : T) : Prop := okT a → ∀ b, ∀ H, lim G0.cfg (.func 24) [.agg (cT a), .agg (cT b)] H = some (.bool (eqT a b), H)

theorem loop24 {s0 r0 s1 r1 : Int} {ks ks' : List T} (hl : ks.length = ks'.length) (hm : ks.length ≤ maxLen) (hok : okTs ks) (hq : ∀ a ∈ ks, Spec24 a) (n : Nat) : ∀ (x x' : List T) (j : Nat) (s : St) (m : Nat), ks.drop j = x → ks'.drop j = x' → x.length < m →
    I24 s0 r0 s1 r1 (cTs ks) (cTs ks') j s → j ≤ ks.length → ∃ s', loopN (evalCode (lim G0.cfg) n B24) m s = some (if eqTs x x' then .exit 0 else .ret, s') ∧ R24 s'
  | [], x', j, s, m, hx, hx', hlt, hs, hj => by
    obtain ⟨m, rfl⟩ : ∃ q, m = q + 1 := ⟨m - 1, by simp at hlt; omega⟩
    have hje : ks.length ≤ j := List.drop_eq_nil_iff.1 hx
    have hx2 : x' = [] := by rw [← hx']; exact List.drop_eq_nil_iff.2 (by omega)
    subst hx2
    obtain ⟨s', h1, h2⟩ := end24 (j := j) (by rw [cTs_len]; omega) hs n
    exact ⟨s', by simp [loopN, h1, eqTs], h2⟩
  | a :: x, x', j, s, m, hx, hx', hlt, hs, hj => by
    obtain ⟨m, rfl⟩ : ∃ q, m = q + 1 := ⟨m - 1, by simp at hlt; omega⟩
    have hjl : j < ks.length := by
      rcases Nat.lt_or_ge j ks.length with h | h
      · exact h
      · rw [List.drop_eq_nil_iff.2 h] at hx; cases hx
    have hga : ks[j]? = some a := by
      have : (ks.drop j)[0]? = some a := by rw [hx]; rfl
      simpa using this
    obtain ⟨b, hgb⟩ : ∃ b, ks'[j]? = some b := ⟨ks'[j], by simp [hl ▸ hjl]⟩
    have hxd : ks.drop (j + 1) = x := by rw [← List.tail_drop, hx]; rfl
    have hxb : x' = b :: ks'.drop (j + 1) := by
      rw [← hx', List.drop_eq_getElem_cons (hl ▸ hjl)]
      congr 1
      exact (List.getElem?_eq_some_iff.1 hgb).2
    have ham : a ∈ ks := List.mem_of_getElem? hga
    obtain ⟨s1', h1, h2⟩ := step24 (ks := cTs ks) (ks' := cTs ks') (j := j) (c := cT a) (c' := cT b) (by rw [cTs_get, hga]; rfl) (by rw [cTs_get, hgb]; rfl) (cT_ok a) (cT_ok b) (by omega) (hq a ham (okTs_get ks j a hok hga) b) hs n
    subst hxb
    simp only [loopN, h1, eqTs]
    rcases Bool.eq_false_or_eq_true (eqT a b) with hab | hab
    case inr =>
      simp only [hab, Bool.false_eq_true, if_false] at h2 ⊢
      exact ⟨s1', by simp, h2⟩
    case inl =>
      simp only [hab, if_true] at h2 ⊢
      obtain ⟨s2, h3, h4⟩ := loop24 hl hm hok hq n x (ks'.drop (j + 1)) (j + 1) s1' m hxd rfl (by simp at hlt; omega) h2 (by omega)
      exact ⟨s2, by simpa using h3, h4⟩

def r24 : St := ⟨List.replicate 4 AV.un ++ [.bool false] ++ List.replicate 41 AV.un, []⟩
theorem r24_ok : R24 r24 := ⟨_, _, _, _, _, _, _, _, _, _, _, _, _, _, _, _, _, _, _, _, _, _, _, _, _, _, _, _, _, _, _, _, _, _, _, _, _, _, _, _, _, _, _, _, _, _, rfl⟩

theorem fn24 {s0 r0 s1 r1 : Int} {ks ks' : List T} (hm : ks.length ≤ maxLen) (hok : okTs ks) (hq : ∀ a ∈ ks, Spec24 a) (H : AHeap) :
    lim G0.cfg (.func 24) [.agg [.int .i64 s0, .int .i64 r0, .vsl false (cTs ks)], .agg [.int .i64 s1, .int .i64 r1, .vsl false (cTs ks')]] H = some (.bool (s0 == s1 && r0 == r1 && eqTs ks ks'), H) := by
  have run : ∃ h', runFn (lim G0.cfg) (ks'.length + 1) A24 [.agg [.int .i64 s0, .int .i64 r0, .vsl false (cTs ks)], .agg [.int .i64 s1, .int .i64 r1, .vsl false (cTs ks')]] [] = some (.bool (s0 == s1 && r0 == r1 && eqTs ks ks'), h') := by
    by_cases h1 : s0 = s1
    · by_cases h2 : r0 = r1
      · subst h1 h2
        by_cases hl : ks.length = ks'.length
        · obtain ⟨f, hf, hR⟩ := skolem (I24 s0 r0 s0 r0 (cTs ks) (cTs ks') 0) (fun s s' => loopN (evalCode (lim G0.cfg) (ks'.length + 1) B24) (ks'.length + 1) s = some (if eqTs ks ks' then .exit 0 else .ret, s')) R24 r24 r24_ok
            (fun s hs => loop24 (ks := ks) (ks' := ks') hl hm hok hq (ks'.length + 1) ks ks' 0 s (ks'.length + 1) rfl rfl (by omega) hs (by omega))
          have hR6 : ∀ s, (f s).t[4]? = some (.bool false) ∧ (f s).t.length = 46 := fun s => by
            obtain ⟨H, y0, y1, y2, y3, y5, y6, y7, y8, y9, y10, y11, y12, y13, y14, y15, y16, y17, y18, y19, y20, y21, y22, y23, y24, y25, y26, y27, y28, y29, y30, y31, y32, y33, y34, y35, y36, y37, y38, y39, y40, y41, y42, y43, y44, y45, e⟩ := hR s
            rw [e]; exact ⟨rfl, rfl⟩
          have hR7 : ∀ s (h : 4 < (f s).t.length), (f s).t[4] = .bool false := fun s h => (List.getElem?_eq_some_iff.1 (hR6 s).1).2
          simp [runFn, A24, evalCode, runOps, runOp, wanted, aop, put, AX.ev, avs, aload, acells, getArr, part, packV, cellsOf, aaddr, abin, aint, aun, aeq, alen, aindexAddr, astore, putCells, List.getElem?_append, List.set_append, cTs_len, hl]
          rw [hf _ ?hI]
          case hI => exact ⟨_, _, _, _, _, _, _, _, _, _, _, _, _, _, _, _, _, _, _, _, _, _, _, _, _, _, _, _, _, _, _, _, _, _, _, _, _, _, _, _, _, _, rfl⟩
          cases eqTs ks ks' <;> simp [resAll, resVals, resVal, hR6, hR7]
        · have hl2 : ((ks.length : Int) != (ks'.length : Int)) = true := by simp; omega
          simp [runFn, A24, evalCode, runOps, runOp, wanted, aop, put, AX.ev, avs, aload, acells, getArr, part, packV, cellsOf, aaddr, abin, aint, aun, aeq, alen, aindexAddr, astore, putCells, List.getElem?_append, List.set_append, resAll, resVals, resVal, cTs_len, hl2, eqTs_len hl]
      · subst h1
        have h2' : (r0 != r1) = true := by simp [h2]
        simp [runFn, A24, evalCode, runOps, runOp, wanted, aop, put, AX.ev, avs, aload, acells, getArr, part, packV, cellsOf, aaddr, abin, aint, aun, aeq, alen, aindexAddr, astore, putCells, List.getElem?_append, List.set_append, resAll, resVals, resVal, h2', h2]
    · have h1' : (s0 != s1) = true := by simp [h1]
      simp [runFn, A24, evalCode, runOps, runOp, wanted, aop, put, AX.ev, avs, aload, acells, getArr, part, packV, cellsOf, aaddr, abin, aint, aun, aeq, alen, aindexAddr, astore, putCells, List.getElem?_append, List.set_append, resAll, resVals, resVal, h1', h1]
  obtain ⟨h', hr⟩ := run
  exact lim_simple rfl P24 _ (fun h => by simp [mapO, fr3]) hr (by rfl) H

mutual
theorem same24 : ∀ a : T, Spec24 a
  | .node s r ks => fun hok b H => by
    obtain ⟨s', r', ks'⟩ := b
    simp only [cT, eqT]
    exact fn24 hok.1 hok.2 (same24s ks) H
theorem same24s : ∀ (ks : List T) (a : T), a ∈ ks → Spec24 a
  | [], a, h => by cases h
  | k :: ks, a, h => by
    by_cases e : a = k
    · rw [e]; exact same24 k
    · exact same24s ks a (by rcases List.mem_cons.1 h with h | h; exact absurd h e; exact h)
end
end Go.Proofs.Ytkimloceaihplaa.Ai
