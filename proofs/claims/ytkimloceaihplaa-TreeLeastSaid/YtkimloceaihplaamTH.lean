/- The reference's shortest tree: built, in its caller's memory. -/
import Derived.Test.YtkimloceaihplaamTG
namespace Go.Proofs.Ytkimloceaihplaa.Ai
open Go Go.Proofs
set_option linter.unusedVariables false
set_option linter.unusedSimpArgs false
set_option maxRecDepth 10000
set_option maxHeartbeats 4000000
mutual
def RepB (h : AHeap) : T → (Nat → Prop) → List AV → Prop
 | .node s r ks, S, c => ∃ kv, c = [.int .i64 s, .int .i64 r, kv] ∧ ((ks = [] ∧ kv = .nilS) ∨ ∃ i ver rows, S i ∧ kv = .hsl i ver 0 ks.length none ∧ h[i]? = some (.arr ver 3 false rows) ∧ RepBs h ks (fun j => S j ∧ j ≠ i) rows)
def RepBs (h : AHeap) : List T → (Nat → Prop) → List (List AV) → Prop
 | [], _, rows => rows = []
 | t :: ks, S, rows => ∃ c rest, rows = c :: rest ∧ RepB h t S c ∧ RepBs h ks S rest
end
mutual
theorem RepB.mono {h h' : AHeap} : ∀ (t : T) {S S' : Nat → Prop} {c : List AV}, RepB h t S c → (∀ i, S i → S' i) → (∀ (i : Nat) (o : AObj), S i → h[i]? = some o → h'[i]? = some o) → RepB h' t S' c
 | .node s r ks, S, S', c, hr, hl, hk => by
  obtain ⟨kv, h1, h2⟩ := hr
  refine ⟨kv, h1, ?_⟩
  rcases h2 with h2 | ⟨i, ver, rows, g1, g2, g3, g4⟩
  ·exact .inl h2
  ·exact .inr ⟨i, ver, rows, hl i g1, g2, hk i _ g1 g3, RepBs.mono ks g4 (fun j hj => ⟨hl j hj.1, hj.2⟩) fun j o hj => hk j o hj.1⟩
theorem RepBs.mono {h h' : AHeap} : ∀ (ks : List T) {S S' : Nat → Prop} {rows : List (List AV)}, RepBs h ks S rows → (∀ i, S i → S' i) → (∀ (i : Nat) (o : AObj), S i → h[i]? = some o → h'[i]? = some o) → RepBs h' ks S' rows
 | [], S, S', rows, hr, hl, hk => hr
 | t :: ks, S, S', rows, hr, hl, hk => by
  obtain ⟨c, rest, h1, h2, h3⟩ := hr
  exact ⟨c, rest, h1, RepB.mono t h2 hl hk, RepBs.mono ks h3 hl hk⟩
end
theorem RepBs.len {h : AHeap} : ∀ {ks : List T} {S : Nat → Prop} {rows : List (List AV)}, RepBs h ks S rows → rows.length = ks.length
 | [], _, _, e => by cases e; rfl
 | t :: ks, _, _, ⟨c, rest, e, _, g⟩ => by subst e; simp [g.len]
theorem RepB.cell {h : AHeap} {t : T} {S : Nat → Prop} {c : List AV} (hr : RepB h t S c) : ∃ a b kv, c = [.int .i64 a, .int .i64 b, kv] ∧ cellsOf kv = [kv] ∧ cellOk kv = true ∧ (kv = .nilS ∨ ∃ i v n, kv = .hsl i v 0 n none) := by
 obtain ⟨s, r, ks⟩ := t
 obtain ⟨kv, h1, h2⟩ := hr
 refine ⟨s, r, kv, h1, ?_⟩
 rcases h2 with ⟨_, rfl⟩ | ⟨i, ver, rows, _, rfl, _⟩
 ·exact ⟨rfl, rfl, .inl rfl⟩
 ·exact ⟨rfl, rfl, .inr ⟨_, _, _, rfl⟩⟩
theorem RepBs.all {h : AHeap} : ∀ {ks : List T} {S : Nat → Prop} {rows : List (List AV)}, RepBs h ks S rows → rows.all (fun c => c.length == 3 && c.all cellOk) = true
 | [], _, _, e => by cases e; rfl
 | t :: ks, _, _, ⟨c, rest, e, h1, g⟩ => by
  subst e
  obtain ⟨a, b, kv, rfl, _, k2, _⟩ := h1.cell
  rw [List.all_cons, g.all]
  simp only [List.all_cons,List.all_nil,k2]
  rfl
mutual
theorem RepB.fz {h : AHeap} : ∀ (t : T) {S : Nat → Prop} {c : List AV} (d : Nat), RepB h t S c → depT t ≤ d → ∃ q, mapO (freeze h (d + 1)) c = some q ∧ Enc t (q.map (·.1))
 | .node s r ks, S, c, d, hr, hd => by
  obtain ⟨kv, rfl, h2⟩ := hr
  have i1 : ∀ n : Int, freeze h (d + 1) (.int .i64 n) = some (.int .i64 n, true) := fun _ => rfl
  rcases h2 with ⟨rfl, rfl⟩ | ⟨i, ver, rows, g1, rfl, g3, g4⟩
  ·exact ⟨[(.int .i64 s, true), (.int .i64 r, true), (.nilS, true)], mapO_3 (i1 s) (i1 r) rfl, ⟨_, rfl, .inl ⟨rfl, rfl⟩⟩⟩
  ·rw [depT] at hd
   obtain ⟨d, rfl⟩ : ∃ e, d = e + 1 := ⟨d - 1, by omega⟩
   obtain ⟨q, e1, e2⟩ := RepBs.fz ks d g4 (by omega)
   have e3 := freeze_hslG (d := d + 1) (n := ks.length) (cc := none) (q := q) g3 (by rw [g4.len]; exact Nat.le_refl _) (by rw [← g4.len, List.take_length]; exact e1)
   exact ⟨_, mapO_3 (i1 s) (i1 r) e3, ⟨_, rfl, .inr ⟨false, _, rfl, e2⟩⟩⟩
theorem RepBs.fz {h : AHeap} : ∀ (ks : List T) {S : Nat → Prop} {rows : List (List AV)} (d : Nat), RepBs h ks S rows → depTs ks ≤ d → ∃ q, mapO (mapO (freeze h (d + 1))) rows = some q ∧ Encs ks (q.map (·.map (·.1)))
 | [], S, rows, d, hr, hd => by cases hr; exact ⟨[], rfl, rfl⟩
 | t :: ks, S, rows, d, hr, hd => by
  obtain ⟨c, rest, rfl, h2, h3⟩ := hr
  rw [depTs] at hd
  obtain ⟨q1, a1, a2⟩ := RepB.fz t d h2 (by omega)
  obtain ⟨q2, b1, b2⟩ := RepBs.fz ks d h3 (by omega)
  exact ⟨q1 :: q2, by simp only [mapO,a1,b1], ⟨_, _, rfl, a2, b2⟩⟩
end
section
variable {g : GramD} {L : List (Int × Int)} {y h fs : List Int}
end
end Go.Proofs.Ytkimloceaihplaa.Ai
namespace Go.Proofs.Ytkimloceaihplaa.Ai
open Go Go.Proofs
set_option linter.unusedVariables false
set_option linter.unusedSimpArgs false
set_option maxRecDepth 10000
set_option maxHeartbeats 4000000
theorem lim_raw {g : Nat} (hp : G0.cfg.pu g = true) {a a' : List AV} {l : List (AV × Bool)} {H H0 H1 : AHeap} {y : AV} (e : lim G0.cfg (.func g) a' H0 = some (y, H1)) (ha' : mapO (freeze H0 1000) a' = some (a'.map fun x => (x, true))) (ha : mapO (freeze H 1000) a = some l) (hl : l.map (·.1) = a') (hy : isFlat y = true) : lim G0.cfg (.func g) a H = some (y, H) := by
 rw [lim_iff] at e ⊢
 obtain ⟨k, e⟩ := e
 cases k with
 | zero => cases e
 | succ k =>
  refine ⟨k + 1, ?_⟩
  have e2 : (a'.map fun x => (x, true)).map (·.1) = a' := by rw [List.map_map]; exact List.map_id a'
  simp only [callT,hp,if_true,pureCall,ha',ha,hl,e2] at e ⊢
  cases hr : pureRes G0.cfg (callT G0.cfg k) k g a' with
  | none => rw [hr] at e; cases e
  | some v =>
   rw [hr] at e
   have hv : v = y := by
    simp only at e
    cases hb : (((a'.map fun x => (x, true)).all (·.2)) || isFlat v || pureClean G0.cfg (callT G0.cfg k) k g a') with
    | false => rw [hb] at e; cases e
    | true => rw [hb] at e; simp only [cond_true,Option.some.injEq,Prod.mk.injEq] at e; exact e.1
   subst hv
   simp only [hy,Bool.or_true,Bool.true_or,cond_true]
section
variable {g : GramD} {L : List (Int × Int)} {y h : List Int} {xy xh : AV}
theorem rkS_le (hok : HOk g.nonterms.length h) (s : Int) : rkS h s ≤ g.nonterms.length + 1 := by
 unfold rkS
 split
 ·omega
 ·by_cases q : nx s < h.length
  ·have := hok.rng _ (getD_in h _ 0 q); omega
  ·have : h.getD (nx s) 0 = 0 := by simp [List.getD_eq_getElem?_getD, List.getElem?_eq_none (l := h) (i := nx s) (by omega)]
   rw [this]; simp
end
end Go.Proofs.Ytkimloceaihplaa.Ai
