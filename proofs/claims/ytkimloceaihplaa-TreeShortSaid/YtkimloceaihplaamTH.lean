/- The reference's shortest tree: built, in its caller's memory. -/
import Derived.Test.YtkimloceaihplaamTG
namespace Go.Proofs.Ytkimloceaihplaa.Ai
open Go Go.Proofs
open AV renaming junk → J
open List renaming set_cons_zero → Q0, length_cons → Q1, getElem?_cons_zero → Q2, length_nil → Q3, cons_append → Q4, getD_cons_zero → Q5, getD_cons_succ → Q6, drop_succ_cons → Q7, take_succ_cons → Q8, nil_append → Q9, set_cons_succ → Z0, all_cons → Z1, drop_zero → Z3, take_zero → Z4
open Option renaming bind_some → Z2
set_option linter.unusedVariables false
set_option linter.unusedSimpArgs false
set_option maxRecDepth 10000
set_option maxHeartbeats 4000000
theorem OwnG.lt' {sz : Nat} {rows : List (List AV)} {v : AV} {h : AHeap} {i : Nat} {q : Option Nat} (ho : OwnG sz rows v h q) (e : q = some i) : i < h.length := by subst e; exact ho.lt
mutual
def RepB (h : AHeap) : T → (Nat → Prop) → List AV → Prop
 | .node s r ks, S, c => ∃ kv, c = [.int .i64 s, .int .i64 r, kv] ∧ ((ks = [] ∧ kv = .nilS) ∨ ∃ i ver rows, S i ∧ kv = .hsl i ver 0 ks.length none ∧ h[i]? = some (.arr ver 3 false rows) ∧ RepBs h ks (fun j => S j ∧ j ≠ i) rows)
def RepBs (h : AHeap) : List T → (Nat → Prop) → List (List AV) → Prop
 | [], _, rows => rows = []
 | t :: ks, S, rows => ∃ c rest, rows = c :: rest ∧ RepB h t S c ∧ RepBs h ks S rest
end
mutual
theorem RepB.mono {h h' : AHeap} : ∀ (t : T) {S S' : Nat → Prop} {c : List AV}, RepB h t S c → (∀ i, S i → S' i) → (∀ (i : Nat) (o : AObj), S i → h[i]? = some o → h'[i]? = some o) → RepB h' t S' c
 | .node s r ks, S, S', c, hr, hl, hk => by
  obtain ⟨kv, h1, h2⟩ := hr
  refine ⟨kv, h1, ?_⟩
  rcases h2 with h2 | ⟨i, ver, rows, g1, g2, g3, g4⟩
  ·exact .inl h2
  ·exact .inr ⟨i, ver, rows, hl i g1, g2, hk i _ g1 g3, RepBs.mono ks g4 (fun j hj => ⟨hl j hj.1, hj.2⟩) fun j o hj => hk j o hj.1⟩
theorem RepBs.mono {h h' : AHeap} : ∀ (ks : List T) {S S' : Nat → Prop} {rows : List (List AV)}, RepBs h ks S rows → (∀ i, S i → S' i) → (∀ (i : Nat) (o : AObj), S i → h[i]? = some o → h'[i]? = some o) → RepBs h' ks S' rows
 | [], S, S', rows, hr, hl, hk => hr
 | t :: ks, S, S', rows, hr, hl, hk => by
  obtain ⟨c, rest, h1, h2, h3⟩ := hr
  exact ⟨c, rest, h1, RepB.mono t h2 hl hk, RepBs.mono ks h3 hl hk⟩
end
theorem RepBs.snoc {h : AHeap} {t : T} {S : Nat → Prop} {c : List AV} (hc : RepB h t S c) : ∀ (ks : List T) (rows : List (List AV)), RepBs h ks S rows → RepBs h (ks ++ [t]) S (rows ++ [c])
 | [], rows, e => by cases e; exact ⟨c, [], rfl, hc, rfl⟩
 | k :: ks, rows, ⟨c', rest, e, h1, h2⟩ => by subst e; exact ⟨c', _, rfl, h1, RepBs.snoc hc ks rest h2⟩
theorem RepBs.len {h : AHeap} : ∀ {ks : List T} {S : Nat → Prop} {rows : List (List AV)}, RepBs h ks S rows → rows.length = ks.length
 | [], _, _, e => by cases e; rfl
 | t :: ks, _, _, ⟨c, rest, e, _, g⟩ => by subst e; simp [g.len]
theorem RepB.cell {h : AHeap} {t : T} {S : Nat → Prop} {c : List AV} (hr : RepB h t S c) : ∃ a b kv, c = [.int .i64 a, .int .i64 b, kv] ∧ cellsOf kv = [kv] ∧ cellOk kv = true ∧ (kv = .nilS ∨ ∃ i v n, kv = .hsl i v 0 n none) := by
 obtain ⟨s, r, ks⟩ := t
 obtain ⟨kv, h1, h2⟩ := hr
 refine ⟨s, r, kv, h1, ?_⟩
 rcases h2 with ⟨_, rfl⟩ | ⟨i, ver, rows, _, rfl, _⟩
 ·exact ⟨rfl, rfl, .inl rfl⟩
 ·exact ⟨rfl, rfl, .inr ⟨_, _, _, rfl⟩⟩
theorem RepBs.all {h : AHeap} : ∀ {ks : List T} {S : Nat → Prop} {rows : List (List AV)}, RepBs h ks S rows → rows.all (fun c => c.length == 3 && c.all cellOk) = true
 | [], _, _, e => by cases e; rfl
 | t :: ks, _, _, ⟨c, rest, e, h1, g⟩ => by
  subst e
  obtain ⟨a, b, kv, rfl, _, k2, _⟩ := h1.cell
  rw [Z1, g.all]
  simp only [Z1,List.all_nil,k2]
  rfl
mutual
theorem RepB.fz {h : AHeap} : ∀ (t : T) {S : Nat → Prop} {c : List AV} (d : Nat), RepB h t S c → depT t ≤ d → ∃ q, mapO (freeze h (d + 1)) c = some q ∧ Enc t (q.map (·.1))
 | .node s r ks, S, c, d, hr, hd => by
  obtain ⟨kv, rfl, h2⟩ := hr
  have i1 : ∀ n : Int, freeze h (d + 1) (.int .i64 n) = some (.int .i64 n, true) := fun _ => rfl
  rcases h2 with ⟨rfl, rfl⟩ | ⟨i, ver, rows, g1, rfl, g3, g4⟩
  ·exact ⟨[(.int .i64 s, true), (.int .i64 r, true), (.nilS, true)], mapO_3 (i1 s) (i1 r) rfl, ⟨_, rfl, .inl ⟨rfl, rfl⟩⟩⟩
  ·rw [depT] at hd
   obtain ⟨d, rfl⟩ : ∃ e, d = e + 1 := ⟨d - 1, by omega⟩
   obtain ⟨q, e1, e2⟩ := RepBs.fz ks d g4 (by omega)
   have e3 := freeze_hslG (d := d + 1) (n := ks.length) (cc := none) (q := q) g3 (by rw [g4.len]; exact Nat.le_refl _) (by rw [← g4.len, List.take_length]; exact e1)
   exact ⟨_, mapO_3 (i1 s) (i1 r) e3, ⟨_, rfl, .inr ⟨false, _, rfl, e2⟩⟩⟩
theorem RepBs.fz {h : AHeap} : ∀ (ks : List T) {S : Nat → Prop} {rows : List (List AV)} (d : Nat), RepBs h ks S rows → depTs ks ≤ d → ∃ q, mapO (mapO (freeze h (d + 1))) rows = some q ∧ Encs ks (q.map (·.map (·.1)))
 | [], S, rows, d, hr, hd => by cases hr; exact ⟨[], rfl, rfl⟩
 | t :: ks, S, rows, d, hr, hd => by
  obtain ⟨c, rest, rfl, h2, h3⟩ := hr
  rw [depTs] at hd
  obtain ⟨q1, a1, a2⟩ := RepB.fz t d h2 (by omega)
  obtain ⟨q2, b1, b2⟩ := RepBs.fz ks d h3 (by omega)
  exact ⟨q1 :: q2, by simp only [mapO,a1,b1], ⟨_, _, rfl, a2, b2⟩⟩
end
theorem elems_t (h : AHeap) (c : List AV) (hc : c.length = 3) : elemsOf (h ++ [.arr 0 3 true [c]]) 3 (.hsl h.length 0 0 1 none) = some [c] := by
 simp [elemsOf, getArr]
theorem OwnG.pushEl {sz : Nat} {rows : List (List AV)} {c : List AV} {v w : AV} {h : AHeap} {q : Option Nat} (hel : elemsOf h sz w = some [c]) (ho : OwnG sz rows v h q) (hsz : c.length = sz) (hc : c.all cellOk = true) (hall : rows.all (fun c => c.length == sz && c.all cellOk) = true) (bytes : Nat) (hb : bytes ≤ 1000) (hl : rows.length ≤ 1000000) :
  ∃ i ver h', aapp h sz bytes v w = some (.hsl i ver 0 (rows.length + 1) none, h') ∧ OwnG sz (rows ++ [c]) (.hsl i ver 0 (rows.length + 1) none) h' (some i) ∧ (∀ (j : Nat) (o : AObj), h[j]? = some o → q ≠ some j → h'[j]? = some o) ∧ (q = some i ∨ (q = none ∧ i = h.length)) ∧ h.length ≤ h'.length := by
 obtain ⟨i, ver, h', r1, r⟩ := ho.push true hsz hc hall bytes hb hl
 refine ⟨i, ver, h', ?_, r⟩
 rw [← r1]
 have e2 : elemsOf h sz (.vsl true [c]) = some [c] := by simp [elemsOf, hsz]
 unfold aapp
 rw [hel, e2]
theorem OwnG.pushT {rows : List (List AV)} {v : AV} {h : AHeap} {q : Option Nat} (ho : OwnG 3 rows v h q) {a b : Int} {kv : AV} (hw : cellsOf kv = [kv] ∧ cellOk kv = true) (hall : rows.all (fun c => c.length == 3 && c.all cellOk) = true) (bytes : Nat) (hb : bytes ≤ 1000) (hl : rows.length ≤ 1000000) :
  ∃ lit h1 i ver h', abs0 h false 3 1 [.int .i64 0, .int .i64 0, .nilS] [(0, .agg [.int .i64 a, .int .i64 b, kv])] = some (lit, h1) ∧ (∀ (j : Nat) (o : AObj), h[j]? = some o → h1[j]? = some o) ∧ aapp h1 3 bytes v lit = some (.hsl i ver 0 (rows.length + 1) none, h') ∧ OwnG 3 (rows ++ [[.int .i64 a, .int .i64 b, kv]]) (.hsl i ver 0 (rows.length + 1) none) h' (some i) ∧ (∀ (j : Nat) (o : AObj), h[j]? = some o → q ≠ some j → h'[j]? = some o) ∧ (q = some i ∨ (q = none ∧ h.length ≤ i)) ∧ h.length ≤ h'.length := by
 have ci : ∀ n : Int, cellOk (.int .i64 n) = true := fun _ => rfl
 have pi : ∀ n : Int, pure1 (.int .i64 n) = true := fun _ => rfl
 have hc : ([.int .i64 a, .int .i64 b, kv] : List AV).all cellOk = true := by simp [hw.2, ci]
 cases hp : pure1 kv with
 | true =>
  obtain ⟨i, ver, h', r1, r2, r3, r4, r5⟩ := ho.push true (c := [.int .i64 a, .int .i64 b, kv]) rfl hc hall bytes hb hl
  have e1 : abs0 h false 3 1 [.int .i64 0, .int .i64 0, .nilS] [(0, .agg [.int .i64 a, .int .i64 b, kv])] = some (.vsl true [[.int .i64 a, .int .i64 b, kv]], h) := by
   simp [abs0, fillCells, flatParts, putCells, cellsOf, chop, hp, pi]
  exact ⟨_, _, i, ver, h', e1, fun j o e => e, r1, r2, r3, r4.imp id (fun k => ⟨k.1, by omega⟩), r5⟩
 | false =>
  have e1 : abs0 h false 3 1 [.int .i64 0, .int .i64 0, .nilS] [(0, .agg [.int .i64 a, .int .i64 b, kv])] = some (.hsl h.length 0 0 1 none, h ++ [.arr 0 3 true [[.int .i64 a, .int .i64 b, kv]]]) := by
   simp [abs0, fillCells, flatParts, putCells, cellsOf, chop, hp, pi]
  have ho1 : OwnG 3 rows v (h ++ [.arr 0 3 true [[.int .i64 a, .int .i64 b, kv]]]) q := ho.frame fun i o _ e => get_app e _
  obtain ⟨i, ver, h', r1, r2, r3, r4, r5⟩ := OwnG.pushEl (elems_t h _ rfl) ho1 rfl hc hall bytes hb hl
  refine ⟨_, _, i, ver, h', e1, fun j o e => get_app e _, r1, r2, fun j o e => r3 j o (get_app e _), r4.imp id (fun k => ⟨k.1, ?_⟩), ?_⟩
  ·have := k.2; simp at this; omega
  ·simp at r5; omega
section
variable {g : GramD} {L : List (Int × Int)} {y h fs : List Int}
theorem r_build (hg : GramR g) (F : Fix3 g.rules g.nonterms.length L y h) (ff : Firsts g.rules g.nonterms.length y h fs) (f : Nat) : ∀ (j : Nat), j ≤ f → ∀ (s : Int), Sm g.nonterms.length y s → rkS h s ≤ j → inI64 s → ∀ (H : AHeap) (w : AV) (qf : Option Nat), OwnG 1 (eIs fs) w H qf → ∃ c H', lim G0.cfg (.func 61) [.agg (eGram g), .int .i64 s, w] H = some (.agg c, H') ∧ (∀ (i : Nat) (o : AObj), H[i]? = some o → H'[i]? = some o) ∧ RepB H' (shT g.rules y h f s) (fun i => H.length ≤ i ∧ i < H'.length) c := by
 have hgl := hg.ok.rules
 rw [maxLen_eq] at hgl
 have nt := hg.good.nt
 have leafC : ∀ (s : Int) (H : AHeap) (w : AV), 0 ≤ s → ∃ c H', lim G0.cfg (.func 61) [.agg (eGram g), .int .i64 s, w] H = some (.agg c, H') ∧ (∀ (i : Nat) (o : AObj), H[i]? = some o → H'[i]? = some o) ∧ RepB H' (shT g.rules y h f s) (fun i => H.length ≤ i ∧ i < H'.length) c := fun s H w p => by
  refine ⟨[.int .i64 s, .int .i64 (-1), .nilS], H ++ [.arr 0 5 true [eGram g], .arr 0 3 true [[.int .i64 s, .int .i64 (-1), .nilS]]], lim_func rfl P_r20_build 1 ?_, fun i o e => get_app e _, by rw [shT_leaf f p]; exact ⟨_, rfl, .inl ⟨rfl, rfl⟩⟩⟩
  have hl := r_leaf s
  rw [R_r20_build]
  simp only [Zab,Zac,Zad,Zai,Zaj,Zak,Zam,Zar,Zay,Zaz,Zba,Zbi,Zbk,Zbm,Zbn,Zbp,Zbq,Zcp,Zcq,Zcs,Zcu,Zcv,Zcw,Zcx,Zcy,Zcz,Zda,Q0,Z0,Q5,Q6,Z2,Option.map_some,Zdk,Zea,Zeb,decide_true,Q2,List.getElem?_cons_succ,Q1,Q3,if_true,Nat.reduceAdd,Nat.reduceSub,Nat.reduceLeDiff,Int.reduceNeg,eq_self,and_self,Q1,Q3,List.replicate_succ,List.replicate_zero,Q4,Q9,aload,acells,getArr,part,astore,putCells,Z1,List.all_nil,cellOk,Bool.and_self,Z3,Q7,Q8,Z4,List.take_nil,Q4,Q9,Q0,p,hl,hap_get,hap_set,List.append_assoc,List.length_append,resAll,resVals,resVal]
 intro j
 induction j with
 | zero =>
  intro _ s hs hr hi H w qf ow
  refine leafC s H w ?_
  apply Classical.byContradiction
  intro p
  rcases hs with hs | ⟨h1, h2, h3⟩
  ·exact p hs
  ·have := F.kn _ h1 h2 h3
   unfold rkS at hr
   rw [if_neg p] at hr
   omega
 | succ j ih =>
  intro hjf s hs hr hi H w qf ow
  by_cases p : 0 ≤ s
  ·exact leafC s H w p
  obtain ⟨r, r1, r2, r3, r4, r5, r6⟩ := shT_in hg.vr F hs (by omega : rkS h s ≤ f) p
  have hA : nx s < g.nonterms.length ∧ 0 ≤ y.getD (nx s) (-1) ∧ y.getD (nx s) (-1) < most := by
   rcases hs with hs | hs
   ·exact absurd hs p
   ·exact hs
  have kn := F.kn _ hA.1 hA.2.1 hA.2.2
  have pk := ff.pick _ hA.1 kn.1
  obtain ⟨k, hk⟩ : ∃ k, k = pickD g.rules y h (nx s) := ⟨_, rfl⟩
  rw [← hk] at r1 r6 pk
  have kl := (List.getElem?_eq_some_iff.1 r1).1
  have kr := (List.getElem?_eq_some_iff.1 r1).2
  have hir := fun h => ix_map eRule h 5 false g.rules .i64 k kl rfl
  simp only [kr] at hir
  obtain ⟨s1, s2⟩ := hg.sym r2
  have lf : nx s < fs.length := by rw [ff.len]; exact hA.1
  have e1 : ((nx s : Nat) : Int) = -1 - s := by unfold nx; omega
  have w1 : IntKind.i64.wrap (-1 - s) = -1 - s := w64 (by omega) (by omega)
  have rf := rule_f r
  obtain ⟨n, hn⟩ : ∃ n, n = H.length := ⟨_, rfl⟩
  have loop : ∀ (d i m : Nat) (v : AV) (h0 : AHeap) (rows : List (List AV)) (q : Option Nat), r.right.length = i + d → d < m → (∀ (j : Nat) (o : AObj), H[j]? = some o → h0[j]? = some o) → h0[n]? = some (.arr 0 5 true [eGram g]) → h0[n + 1]? = some (.arr 0 3 true [[.int .i64 0, .int .i64 0, .nilS]]) → h0[n + 2]? = some (.arr 0 3 true [[.int .i64 s, .int .i64 k, v]]) → OwnG 3 rows v h0 q → (∀ j, q = some j → n + 3 ≤ j) → RepBs h0 ((r.right.take i).map (shT g.rules y h f)) (fun j => n + 3 ≤ j ∧ j < h0.length ∧ q ≠ some j) rows → ∃ v' h' rows' q',
    loopN (evalCode (lim G0.cfg) (r.right.length + 1) B_r20_build_0) m ⟨(J::J::w :: .ptr n 0 0 0::J::J::.ptr (n + 1) 0 0 0 :: .int .i64 k :: .ptr (n + 2) 0 0 0 :: .int .i64 i::J::J::J::J::J::J::J::J::J::J::J::J::J::J::J::J::J::J::J::J::J::J::J::J::J::J::J::J::J::J::J::J::J::J::J::J::J::J::J::J::J::[]), h0⟩ = some (.exit 0, ⟨(J::J::J::J::J::J::.ptr (n + 1) 0 0 0::J::.ptr (n + 2) 0 0 0::J::J::J::J::J::J::J::J::J::J::J::J::J::J::J::J::J::J::J::J::J::J::J::J::J::J::J::J::J::J::J::J::J::J::J::J::J::J::J::J::J::J::[]), h'⟩) ∧ (∀ (j : Nat) (o : AObj), H[j]? = some o → h'[j]? = some o) ∧ h'[n + 1]? = some (.arr 0 3 true [[.int .i64 0, .int .i64 0, .nilS]]) ∧ h'[n + 2]? = some (.arr 0 3 true [[.int .i64 s, .int .i64 k, v']]) ∧ OwnG 3 rows' v' h' q' ∧ (∀ j, q' = some j → n + 3 ≤ j) ∧ RepBs h' (r.right.map (shT g.rules y h f)) (fun j => n + 3 ≤ j ∧ j < h'.length ∧ q' ≠ some j) rows' := by
   intro d
   induction d with
   | zero =>
    intro i m v h0 rows q h1 h2 hk e0 e1 e2 ho hq hr
    obtain ⟨m, rfl⟩ : ∃ q, m = q + 1 := ⟨m - 1, by omega⟩
    have h5 : ¬ ((i : Int) < r.right.length) := by omega
    rw [List.take_of_length_le (by omega)] at hr
    refine ⟨v, h0, rows, q, ?_, hk, e1, e2, ho, hq, hr⟩
    simp only [loop_e,EB_r20_build_0,Zab,Zac,Zad,Zag,Zah,Zaj,Zak,Zal,Zas,Zav,Zay,Zbi,Zbk,Zbo,Zbq,Zby,Zcb,Zcg,Zcv,Zcx,Zdb,Zdc,Zdd,Q0,Z0,Q5,Q6,Z2,Zdh,Zdt,Zdx,Zdy,Zdz,Zep,decide_false,Q2,Q1,Q3,if_true,Nat.reduceAdd,Nat.reduceLeDiff,eq_self,aload,acells,getArr,part,Z3,Q7,Q8,Z4,Q0,e0,hir,h5]
   | succ d ihd =>
    intro i m v h0 rows q h1 h2 hk e0 e1 e2 ho hq hr
    obtain ⟨m, rfl⟩ : ∃ q, m = q + 1 := ⟨m - 1, by omega⟩
    have h5x : i < r.right.length := by omega
    have h5' : (i : Int) < r.right.length := by omega
    have hw := w64s (n := i) (by omega)
    have xx := fun h => ix_eIs h false r.right .i64 i h5x
    have mem := List.getElem_mem h5x
    obtain ⟨x1, x2, x3⟩ := r5 _ mem
    have sy := s2 _ mem
    obtain ⟨ci, H1, call, fr1, rep⟩ := ih (by omega) r.right[i] x1 (by omega) ⟨by omega, by omega⟩ h0 w qf (ow.frame fun i o _ e => hk i o e)
    obtain ⟨a, b, kv, rfl, ck, ok, kk⟩ := rep.cell
    have f0 := fr1 _ _ e0
    have f1 := fr1 _ _ e1
    have f2 := fr1 _ _ e2
    have lrow : rows.length = i := by rw [hr.len]; simp; omega
    obtain ⟨lit, h3, i2, ver, h4, a1, a2, a3, a4, a5, a6, a7⟩ := (ho.frame fun i o _ e => fr1 i o e).pushT (a := a) (b := b) (kv := kv) ⟨ck, ok⟩ hr.all 40 (by omega) (by omega)
    have g0 := a2 _ _ f0
    have g2 := a2 _ _ f2
    have nq : ∀ x : Nat, x < n + 3 → q ≠ some x := fun x hx e => by have := hq x e; omega
    have i3 : n + 3 ≤ i2 := by
     rcases a6 with a6 | a6
     ·exact hq _ a6
     ·have := get_len f2; omega
    have k0 := a5 _ _ f0 (nq _ (by omega))
    have k1 := a5 _ _ f1 (nq _ (by omega))
    have k2 := a5 _ _ f2 (nq _ (by omega))
    rw [lrow] at a3 a4
    obtain ⟨h5, hh5⟩ : ∃ x, x = h4.set (n + 2) (.arr 0 3 true [[.int .i64 s, .int .i64 k, .hsl i2 ver 0 (i + 1) none]]) := ⟨_, rfl⟩
    have ne2 : i2 ≠ n + 2 := by omega
    have fin : ∀ j o, j ≠ n + 2 → h4[j]? = some o → h5[j]? = some o := fun j o hj e => by rw [hh5]; exact get_set_ne e (Ne.symm hj)
    have e3 : (r.right.take (i + 1)).map (shT g.rules y h f) = (r.right.take i).map (shT g.rules y h f) ++ [shT g.rules y h f r.right[i]] := by
     rw [List.take_succ_eq_append_getElem h5x, List.map_append]; rfl
    have l5 : h5.length = h4.length := by rw [hh5]; simp
    have l1 : h0.length ≤ H1.length := by
     apply Classical.byContradiction
     intro c
     have := fr1 H1.length _ (List.getElem?_eq_getElem (by omega))
     have := get_len this
     omega
    have r1' := RepBs.mono _ hr (S' := fun j => n + 3 ≤ j ∧ j < h5.length ∧ some i2 ≠ some j) (h' := h5) (fun j hj => ⟨hj.1, by omega, fun e => by
     cases e
     rcases a6 with a6 | a6
     ·exact hj.2.2 a6
     ·omega⟩) (fun j o hj e => fin j o (by omega) (a5 j o (fr1 j o e) hj.2.2))
    have r2' := rep.mono _ (S' := fun j => n + 3 ≤ j ∧ j < h5.length ∧ some i2 ≠ some j) (h' := h5) (fun j hj => ⟨by have := get_len e2; omega, by omega, fun e => by
     cases e
     rcases a6 with a6 | a6
     ·have := ho.lt' a6; omega
     ·omega⟩) (fun j o hj e => fin j o (by have := get_len e2; omega) (a5 j o e (fun e => by have := ho.lt' e; omega)))
    obtain ⟨v', h', rows', q', e, g1, g2', g3, g4, g5, g6⟩ := ihd (i + 1) m (.hsl i2 ver 0 (i + 1) none) h5 (rows ++ [[.int .i64 a, .int .i64 b, kv]]) (some i2) (by omega) (by omega) (fun j o e => fin j o (by have := get_len e; omega) (a5 j o (fr1 j o (hk j o e)) (nq _ (by have := get_len e; omega)))) (fin _ _ (by omega) k0) (fin _ _ (by omega) k1) (by rw [hh5]; exact get_set_eq k2) (a4.frame fun j o e => by cases e; exact fin _ o ne2) (fun j e => by cases e; exact i3) (by rw [e3]; exact RepBs.snoc r2' _ _ r1')
    refine ⟨v', h', rows', q', ?_, g1, g2', g3, g4, g5, g6⟩
    rw [← e, hh5]
    simp only [loop_e,EB_r20_build_0,Zaa,Zab,Zac,Zad,Zae,Zag,Zaj,Zak,Zan,Zar,Zau,Zay,Zaz,Zba,Zbi,Zbk,Zbo,Zbp,Zbq,Zby,Zcb,Zcg,Zci,Zcn,Zcp,Zcq,Zcv,Zcw,Zcx,Zcy,Zcz,Zda,Zdb,Zdc,Zdd,Q0,Z0,Q5,Q6,Z2,Zde,Zdh,Zdt,Zdx,Zdy,Zdz,Zea,Zeg,Zep,decide_true,Q2,Q1,Q3,if_true,Nat.reduceAdd,Nat.reduceLeDiff,eq_self,and_self,aload,acells,getArr,part,eI,astore,putCells,Z1,List.all_nil,cellOk,Bool.and_self,Z3,Q7,Q8,Z4,List.take_nil,Q4,Q9,Q0,ED_r20_build_0,EQ_r20_build_0_0,EQ_r20_build_0_1,EQ_r20_build_0_2,EQ_r20_build_0_3,EQ_r20_build_0_4,EQ_r20_build_0_5,EQ_r20_build_0_6,EQ_r20_build_0_7,EQ_r20_build_0_8,EQ_r20_build_0_9,EQ_r20_build_0_10,EQ_r20_build_0_11,EQ_r20_build_0_12,EQ_r20_build_0_13,EQ_r20_build_0_14,EQ_r20_build_0_15,EQ_r20_build_0_16,EQ_r20_build_0_17,EQ_r20_build_0_18,EQ_r20_build_0_19,EQ_r20_build_0_20,EQ_r20_build_0_21,EQ_r20_build_0_22,EQ_r20_build_0_23,EQ_r20_build_0_24,EQ_r20_build_0_25,EQ_r20_build_0_26,EQ_r20_build_0_27,EQ_r20_build_0_28,EQ_r20_build_0_29,EQ_r20_build_0_30,EQ_r20_build_0_31,EQ_r20_build_0_32,EQ_r20_build_0_33,EQ_r20_build_0_34,EQ_r20_build_0_35,EQ_r20_build_0_36,EQ_r20_build_0_37,EQ_r20_build_0_38,dq_s,ds_n,ds_c,dwf_s,Fst_eq,e0,hir,h5',xx,call,f2,e2,a1,ev2,a3,k2,hw]
  obtain ⟨H0, hH0⟩ : ∃ H0, H0 = H ++ [.arr 0 5 true [eGram g], .arr 0 3 true [[.int .i64 0, .int .i64 0, .nilS]], .arr 0 3 true [[.int .i64 s, .int .i64 k, .nilS]]] := ⟨_, rfl⟩
  obtain ⟨v', h', rows', q', e, c1, c2, c3, c4, c5, c6⟩ := loop r.right.length 0 (r.right.length + 1) .nilS H0 [] none (by omega) (by omega) (fun j o e => by rw [hH0]; exact get_app e _) (by rw [hH0, hn, hap_get0]; rfl) (by rw [hH0, hn, hap_get]; rfl) (by rw [hH0, hn, hap_get]; rfl) (OwnG.nil _ _) (fun _ e => by cases e) rfl
  have c2' := get_set_eq (y := AObj.arr 0 3 true [[.int .i64 s, .int .i64 k, v']]) c2
  have frs : ∀ (j : Nat) (o : AObj), j ≠ n + 1 → h'[j]? = some o → (h'.set (n + 1) (.arr 0 3 true [[.int .i64 s, .int .i64 k, v']]))[j]? = some o := fun j o hj e => get_set_ne e (Ne.symm hj)
  refine ⟨[.int .i64 s, .int .i64 k, v'], h'.set (n + 1) (.arr 0 3 true [[.int .i64 s, .int .i64 k, v']]), lim_func rfl P_r20_build (r.right.length + 1) ?_, fun j o e => frs j o (by have := get_len e; omega) (c1 j o e), ?_⟩
  ·obtain ⟨iw, vw, w3, w4⟩ : ∃ iw vw, w = .hsl iw vw 0 fs.length none ∧ H[iw]? = some (.arr vw 1 false (eIs fs)) := by
    rcases ow with ⟨h1, _⟩ | ⟨h1, i, ver, _, h3, h4⟩
    ·have := congrArg List.length h1
     rw [Zep] at this
     simp at this
     rw [this] at lf; simp at lf
    ·rw [Zep] at h3
     exact ⟨i, ver, h3, h4⟩
   have ge : ∀ l : AHeap, (H ++ l)[iw]? = some (.arr vw 1 false (eIs fs)) := fun l => get_app w4 l
   have gx : ∀ l : AHeap, aindexAddr (H ++ l) 1 (.hsl iw vw 0 fs.length none) (.int .i64 (-1 - s)) = some (.ptr iw vw (nx s) 0) := fun l => by
    rw [← e1]; exact ix_hvE (ge l) lf
   have gr : (eIs fs)[nx s]? = some [.int .i64 k] := by rw [eIs_getE fs _ lf, ← getD_get lf 0, pk]
   subst w3
   rw [z0, hn, hH0] at e
   rw [hn] at c2 c3 c2'
   have hv : (v' = .nilS ∨ ∃ i ver n, v' = .hsl i ver 0 n none) := by
    rcases c4 with ⟨_, h, _⟩ | ⟨_, i, ver, _, h, _⟩
    ·exact .inl h
    ·exact .inr ⟨i, ver, _, h⟩
   rw [R_r20_build, hn]
   rcases hv with rfl | ⟨i, ver, nn, rfl⟩ <;> simp only [Zaa,Zab,Zac,Zad,Zae,Zaf,Zag,Zai,Zaj,Zak,Zap,Zas,Zat,Zay,Zaz,Zba,Zbi,Zbk,Zbm,Zbn,Zbo,Zbp,Zbq,Zcb,Zcm,Zcs,Zcu,Zcv,Zcw,Zcx,Zcy,Zdb,Zdc,Zdd,Q0,Z0,Q5,Q6,Z2,Option.map_some,Zdf,Zdk,Zdz,Zea,Zeb,Zec,decide_false,Q2,List.getElem?_cons_succ,Q1,Q3,if_true,Nat.reduceAdd,Nat.reduceSub,Nat.reduceLeDiff,Int.reduceNeg,eq_self,and_self,Q1,Q3,List.replicate_succ,List.replicate_zero,Q4,Q9,aload,acells,getArr,part,astore,putCells,Z1,List.all_nil,cellOk,Bool.and_self,Z3,Q7,Q8,Z4,List.take_nil,Q4,Q9,Q0,p,w1,ge,gx,gr,afill,evp,fillCells,Nat.reduceLT,hap_get,hap_set,List.append_assoc,List.length_append,e,c2,c3,c2',resAll,resVals,resVal]
  ·rw [r6]
   refine ⟨v', rfl, ?_⟩
   rcases c4 with ⟨d1, d2, _⟩ | ⟨d1, i, ver, d2, d3, d4⟩
   ·have := c6.len
    rw [d1] at this
    exact .inl ⟨List.length_eq_zero_iff.1 this.symm, d2⟩
   ·have i3 := c5 i d2
    refine .inr ⟨i, ver, rows', ⟨by omega, by rw [List.length_set]; exact get_len d4⟩, by rw [d3, c6.len], frs i _ (by omega) d4, RepBs.mono _ c6 (fun j hj => ⟨⟨by omega, by rw [List.length_set]; exact hj.2.1⟩, fun e => hj.2.2 (by rw [d2, e])⟩) fun j o hj e => frs j o (by omega) e⟩
end
end Go.Proofs.Ytkimloceaihplaa.Ai
namespace Go.Proofs.Ytkimloceaihplaa.Ai
open Go Go.Proofs
open List renaming set_cons_zero → Q0, length_cons → Q1, cons_append → Q2, length_nil → Q3, nil_append → Q4, getElem?_cons_zero → Q5, getD_cons_zero → Q6, getD_cons_succ → Q7, replicate_succ → Q8, replicate_zero → Q9, drop_succ_cons → Z0, take_succ_cons → Z1, set_cons_succ → Z2, drop_zero → Z5, take_zero → Z6
open Option renaming bind_some → Z3, map_some → Z4
set_option linter.unusedVariables false
set_option linter.unusedSimpArgs false
set_option maxRecDepth 10000
set_option maxHeartbeats 4000000
theorem lim_raw {g : Nat} (hp : G0.cfg.pu g = true) {a a' : List AV} {l : List (AV × Bool)} {H H0 H1 : AHeap} {y : AV} (e : lim G0.cfg (.func g) a' H0 = some (y, H1)) (ha' : mapO (freeze H0 1000) a' = some (a'.map fun x => (x, true))) (ha : mapO (freeze H 1000) a = some l) (hl : l.map (·.1) = a') (hy : isFlat y = true) : lim G0.cfg (.func g) a H = some (y, H) := by
 rw [lim_iff] at e ⊢
 obtain ⟨k, e⟩ := e
 cases k with
 | zero => cases e
 | succ k =>
  refine ⟨k + 1, ?_⟩
  have e2 : (a'.map fun x => (x, true)).map (·.1) = a' := by rw [List.map_map]; exact List.map_id a'
  simp only [callT,hp,if_true,pureCall,ha',ha,hl,e2] at e ⊢
  cases hr : pureRes G0.cfg (callT G0.cfg k) k g a' with
  | none => rw [hr] at e; cases e
  | some v =>
   rw [hr] at e
   have hv : v = y := by
    simp only at e
    cases hb : (((a'.map fun x => (x, true)).all (·.2)) || isFlat v || pureClean G0.cfg (callT G0.cfg k) k g a') with
    | false => rw [hb] at e; cases e
    | true => rw [hb] at e; simp only [cond_true,Option.some.injEq,Prod.mk.injEq] at e; exact e.1
   subst hv
   simp only [hy,Bool.or_true,Bool.true_or,cond_true]
section
variable {g : GramD} {L : List (Int × Int)} {y h : List Int} {xy xh : AV}
theorem rkS_le (hok : HOk g.nonterms.length h) (s : Int) : rkS h s ≤ g.nonterms.length + 1 := by
 unfold rkS
 split
 ·omega
 ·by_cases q : nx s < h.length
  ·have := hok.rng _ (getD_in h _ 0 q); omega
  ·have : h.getD (nx s) 0 = 0 := by simp [List.getD_eq_getElem?_getD, List.getElem?_eq_none (l := h) (i := nx s) (by omega)]
   rw [this]; simp
theorem r_Short_ok (hg : GramR g) (h0 : gramErr g = 0) (F : Fix3 g.rules g.nonterms.length L y h) (hok : HOk g.nonterms.length h) (hy : Li y xy) (hh : Li h xh) (yb : ∀ c ∈ y, -1 ≤ c ∧ c ≤ most) (my : ∀ H, lim G0.cfg (.func 50) [.agg (eGram g)] H = some (xy, H)) (mh : ∀ H, lim G0.cfg (.func 58) [.agg (eGram g)] H = some (xh, H)) {s : Int} (hi : inI64 s) (hs : isSym g s = true) (hS : Sm g.nonterms.length y s) (h4 : s < 0 → y.getD (nx s) (-1) < 65536) (f : Nat) (hf : g.nonterms.length + 1 ≤ f) :
  (sizeN (shT g.rules y h f s) ≤ 65536 → ∃ c, Enc (shT g.rules y h f s) c ∧ ∀ H, lim G0.cfg (.func 29) [.agg (eGram g), .int .i64 s] H = some (.tup [.agg c, .int .i64 0], H)) ∧
  (¬ sizeN (shT g.rules y h f s) ≤ 65536 → ∀ H, lim G0.cfg (.func 29) [.agg (eGram g), .int .i64 s] H = some (.tup [.agg [.int .i64 0, .int .i64 0, .nilS], .int .i64 4], H)) := by
 have rr := r_Right g hg.ok
 have rs := r_Symbol g hg.ok s
 rw [h0] at rr
 rw [hs] at rs
 have d0 : decide ((0 : Int) = 0) = true := rfl
 simp only [isSym,Bool.and_eq_true,decide_eq_true_eq] at hs
 have nt := hg.good.nt
 have ly := F.f.lenY
 obtain ⟨N, hN⟩ : ∃ N, N = g.rules.length + g.nonterms.length + 10 := ⟨_, rfl⟩
 obtain ⟨fs, H', w', q', k1, e0, e1, ow, lf, lp⟩ := short_0 hg hy hh ly F.lenH yb (hok.small (by omega)) s N (by omega) g.nonterms.length 0 N [] [.arr 0 5 true [eGram g], .arr 0 3 true [[.int .i64 0, .int .i64 0, .nilS]]] .nilS none (by omega) (by omega) rfl rfl (OwnG.nil 1 _) (fun _ e => by cases e) rfl (fun A hA => by omega)
 rw [z0] at k1
 obtain ⟨x, b, fx, gx⟩ := fzI ow 998
 have ff : Firsts g.rules g.nonterms.length y h fs := ⟨lf, fun A hA hp => low_pick F hA hp (lp A hA)⟩
 have rl := rkS_le hok s
 have gr := r_grown hg F gx ff f f (Nat.le_refl _) s hS (by omega) hi 65536 (Nat.le_refl _)
 have i1 : ∀ (H : AHeap) (n : Int), freeze H 1000 (.int .i64 n) = some (.int .i64 n, true) := fun _ _ => rfl
 obtain ⟨M, hM⟩ : ∃ M, M = sizeN (shT g.rules y h f s) := ⟨_, rfl⟩
 rw [← hM] at gr ⊢
 have grR : lim G0.cfg (.func 60) [.agg (eGram g), .int .i64 s, w', .int .i64 65536] H' = some (.int .i64 ((min M (65536 + 1) : Nat) : Int), H') := by
  refine lim_raw rfl (gr []) ?_ (l := [(.agg (eGram g), true), (.int .i64 s, true), (x, b), (.int .i64 65536, true)]) ?_ rfl rfl
  ·have e65 : ((65536 : Nat) : Int) = 65536 := rfl
   simp only [mapO,fz_gram,i1,gx.fz,List.map_cons,List.map_nil,e65]
  ·simp only [mapO,fz_gram,i1,fx]
 obtain ⟨c, H2, bd, fr, rep⟩ := r_build hg F ff f f (Nat.le_refl _) s hS (by omega) hi H' w' q' ow
 obtain ⟨ca, cb, kv, rfl, ck, ok, kk⟩ := rep.cell
 have b1 := fr _ _ e1
 have b1' := get_set_eq (y := AObj.arr 0 3 true [[.int .i64 ca, .int .i64 cb, kv]]) b1
 have ey1 := get_set_eq (y := AObj.arr 0 3 true [[.int .i64 0, .int .i64 0, .nilS]]) e1
 obtain ⟨l1, l2, l3⟩ := ld_g H' e0
 have l0 := (ld_g [.arr 0 5 true [eGram g], .arr 0 3 true [[.int .i64 0, .int .i64 0, .nilS]]] rfl).2.2
 have dep := shT_dep hg.vr F f s hS (by omega)
 have len1 : 1 < H'.length := get_len e1
 have rep2 := rep.mono _ (S' := fun i => H'.length ≤ i) (h' := H2.set 1 (.arr 0 3 true [[.int .i64 ca, .int .i64 cb, kv]])) (fun i hi => hi.1) (fun i o hi e => get_set_ne e (by omega))
 obtain ⟨q, q1, q2⟩ := rep2.fz _ 997 (by omega)
 have run0 : ∀ (K : Bool), (∀ n : Int, n = M → K = decide (M ≤ 65536)) → runFn (lim G0.cfg) N A_r20_Short [.agg (eGram g), .int .i64 s] [] = if M ≤ 65536 then some (.tup [.agg [.int .i64 ca, .int .i64 cb, kv], .int .i64 0], H2.set 1 (.arr 0 3 true [[.int .i64 ca, .int .i64 cb, kv]])) else some (.tup [.agg [.int .i64 0, .int .i64 0, .nilS], .int .i64 4], H'.set 1 (.arr 0 3 true [[.int .i64 0, .int .i64 0, .nilS]])) := by
  intro K _
  rw [R_r20_Short]
  by_cases p : s < 0
  ·have lk : nx s < y.length := by unfold nx; omega
   have x1 := fun H => hy.ix H .i64 (nx s) lk
   have eN : ((nx s : Nat) : Int) = -1 - s := by unfold nx; omega
   rw [eN, ← getD_get lk (-1)] at x1
   have w1 : IntKind.i64.wrap (-1 - s) = -1 - s := w64 (by omega) (by omega)
   have y4 := h4 p
   have y0 : 0 ≤ y.getD (nx s) (-1) := by
    rcases hS with hS | hS
    ·omega
    ·exact hS.2.1
   obtain ⟨Y, hY⟩ : ∃ Y, Y = y.getD (nx s) (-1) := ⟨_, rfl⟩
   rw [← hY] at x1 y4 y0
   have n1 : ¬ Y < 0 := by omega
   have n2 : ¬ (65536 : Int) ≤ Y := by omega
   by_cases c : M ≤ 65536
   ·have em : min M (65536 + 1) = M := by omega
    rw [em] at grR
    have n3 : ¬ (65536 : Int) < M := by omega
    rw [if_pos c]
    rcases kk with rfl | ⟨ki, kvv, kn, rfl⟩ <;> simp only [Zaa,Zab,Zac,Zad,Zae,Zaf,Zag,Zai,Zaj,Zak,Zap,Zas,Zat,Zay,Zaz,Zba,Zbb,Zbg,Zbi,Zbj,Zbk,Zbl,Zbm,Zbn,Zbo,Zbp,Zbq,Zbr,Zcb,Zcp,Zcq,Zcs,Zcu,Zcv,Zcw,Zcx,Zcy,Zcz,Zda,Zdb,Zdc,Zdd,Q0,Z2,Q6,Q7,Z3,Z4,Zdf,Zdh,Zdj,Zdk,Zdm,Zdr,Zdz,Zea,Zeb,decide_true,decide_false,Bool.not_true,Q5,Q1,Q3,if_true,Nat.reduceAdd,Nat.reduceSub,Nat.reduceLeDiff,Int.reduceNeg,eq_self,and_self,Q1,Q3,Q8,Q9,Q2,Q4,aload,acells,getArr,part,eI,astore,putCells,List.all_cons,List.all_nil,cellOk,Bool.and_self,Z5,Z0,Z1,Z6,List.take_nil,Q2,Q4,Q0,rr,rs,my,mh,p,w1,x1,n1,n2,n3,k1,grR,bd,b1,b1',e0,resAll,resVals,resVal]
   ·have em : min M (65536 + 1) = 65537 := by omega
    rw [em] at grR
    have n3 : (65536 : Int) < ((65537 : Nat) : Int) := by omega
    rw [if_neg c]
    simp only [Zaa,Zab,Zac,Zad,Zae,Zaf,Zag,Zai,Zaj,Zak,Zam,Zap,Zar,Zas,Zat,Zay,Zaz,Zba,Zbb,Zbg,Zbi,Zbj,Zbk,Zbl,Zbm,Zbn,Zbo,Zbp,Zbq,Zbr,Zcb,Zcm,Zcp,Zcq,Zcs,Zcu,Zcv,Zcw,Zcx,Zcy,Zcz,Zda,Zdb,Zdc,Zdd,Q0,Z2,Q6,Q7,Z3,Z4,Zdf,Zdh,Zdj,Zdk,Zdm,Zdr,Zdz,Zea,Zeb,decide_true,decide_false,Bool.not_true,Q5,Q1,Q3,if_true,Nat.reduceAdd,Nat.reduceSub,Nat.reduceLeDiff,Int.reduceNeg,eq_self,and_self,Q1,Q3,Q8,Q9,Q2,Q4,aload,acells,getArr,part,eI,astore,putCells,List.all_cons,List.all_nil,cellOk,Bool.and_self,Z5,Z0,Z1,Z6,List.take_nil,Q2,Q4,Q0,rr,rs,my,mh,p,w1,x1,n1,n2,n3,k1,grR,ey1,e0,e1,afill,evp,fillCells,resAll,resVals,resVal]
  ·by_cases c : M ≤ 65536
   ·have em : min M (65536 + 1) = M := by omega
    rw [em] at grR
    have n3 : ¬ (65536 : Int) < M := by omega
    rw [if_pos c]
    rcases kk with rfl | ⟨ki, kvv, kn, rfl⟩ <;> simp only [Zaa,Zab,Zac,Zad,Zae,Zaf,Zag,Zai,Zaj,Zak,Zap,Zas,Zat,Zay,Zaz,Zba,Zbe,Zbh,Zbi,Zbj,Zbk,Zbl,Zbm,Zbn,Zbo,Zbp,Zbq,Zbr,Zcp,Zcq,Zcs,Zcu,Zcv,Zcw,Zcx,Zcy,Zcz,Zda,Zdb,Zdc,Zdd,Q0,Z2,Q6,Q7,Z3,Z4,Zdh,Zdj,Zdm,Zdr,Zea,Zeb,decide_true,decide_false,Bool.not_true,Q5,Q1,Q3,if_true,Nat.reduceAdd,Nat.reduceSub,Nat.reduceLeDiff,Int.reduceNeg,eq_self,and_self,Q1,Q3,Q8,Q9,Q2,Q4,aload,acells,getArr,part,astore,putCells,List.all_cons,List.all_nil,cellOk,Bool.and_self,Z5,Z0,Z1,Z6,List.take_nil,Q2,Q4,Q0,rr,rs,my,mh,p,n3,k1,grR,bd,b1,b1',e0,resAll,resVals,resVal]
   ·have em : min M (65536 + 1) = 65537 := by omega
    rw [em] at grR
    have n3 : (65536 : Int) < ((65537 : Nat) : Int) := by omega
    rw [if_neg c]
    simp only [Zaa,Zab,Zac,Zad,Zae,Zaf,Zag,Zai,Zaj,Zak,Zam,Zap,Zar,Zas,Zat,Zay,Zaz,Zba,Zbe,Zbh,Zbi,Zbj,Zbk,Zbl,Zbm,Zbn,Zbo,Zbp,Zbq,Zbr,Zcm,Zcp,Zcq,Zcs,Zcu,Zcv,Zcw,Zcx,Zcy,Zcz,Zda,Zdb,Zdc,Zdd,Q0,Z2,Q6,Q7,Z3,Z4,Zdh,Zdj,Zdm,Zdr,Zea,Zeb,decide_true,decide_false,Bool.not_true,Q5,Q1,Q3,if_true,Nat.reduceAdd,Nat.reduceSub,Nat.reduceLeDiff,Int.reduceNeg,eq_self,and_self,Q1,Q3,Q8,Q9,Q2,Q4,aload,acells,getArr,part,astore,putCells,List.all_cons,List.all_nil,cellOk,Bool.and_self,Z5,Z0,Z1,Z6,List.take_nil,Q2,Q4,Q0,rr,rs,my,mh,p,n3,k1,grR,ey1,e0,e1,afill,evp,fillCells,resAll,resVals,resVal]
 have run := run0 _ (fun _ _ => rfl)
 have fza : ∀ h : AHeap, mapO (freeze h 1000) [.agg (eGram g), .int .i64 s] = some ([AV.agg (eGram g), .int .i64 s].map fun x => (x, true)) := fun h => fz_2 (fz_gram g h) rfl
 refine ⟨fun c => ?_, fun c H => ?_⟩
 ·rw [if_pos c] at run
  refine ⟨_, q2, fun H => ?_⟩
  have fz : freeze (H2.set 1 (.arr 0 3 true [[.int .i64 ca, .int .i64 cb, kv]])) 1000 (.tup [.agg [.int .i64 ca, .int .i64 cb, kv], .int .i64 0]) = some (.tup [.agg (q.map (·.1)), .int .i64 0], q.all (·.2) && (true && true)) := by
   have e1 : ∀ (hh : AHeap) (l : List AV), freeze hh 1000 (.tup l) = (mapO (freeze hh 999) l).map fun l => (.tup (l.map (·.1)), l.all (·.2)) := fun hh l => rfl
   have e2 : ∀ (hh : AHeap) (l : List AV), freeze hh 999 (.agg l) = (mapO (freeze hh 998) l).map fun l => (.agg (l.map (·.1)), l.all (·.2)) := fun hh l => rfl
   have e3 : freeze (H2.set 1 (.arr 0 3 true [[.int .i64 ca, .int .i64 cb, kv]])) 999 (.agg [.int .i64 ca, .int .i64 cb, kv]) = some (.agg (q.map (·.1)), q.all (·.2)) := by rw [e2, q1]; rfl
   rw [e1, mapO_2 e3 (rfl : freeze _ 999 (.int .i64 0) = some (.int .i64 0, true))]
   rfl
  exact lim_at rfl rfl P_r20_Short N fza run fz H
 ·rw [if_neg c] at run
  exact lim_flat rfl rfl P_r20_Short N fza ⟨_, run⟩ (fun _ => rfl) H
end
end Go.Proofs.Ytkimloceaihplaa.Ai
