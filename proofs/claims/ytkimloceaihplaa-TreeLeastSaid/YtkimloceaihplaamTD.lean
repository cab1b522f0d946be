/- slices.Reverse, Equal, ContainsFunc on lists of numbers. -/
import Derived.Test.YtkimloceaihplaamTC
import Derived.Test.YtkimloceaihplaamGB
import Derived.Test.YtkimloceaihplaamGA
namespace Go.Proofs.Ytkimloceaihplaa.Ai
open Go Go.Proofs
set_option linter.unusedVariables false
set_option linter.unusedSimpArgs false
set_option maxRecDepth 10000
set_option maxHeartbeats 4000000
end Go.Proofs.Ytkimloceaihplaa.Ai
namespace Go.Proofs.Ytkimloceaihplaa.Ai
open Go Go.Proofs
set_option linter.unusedVariables false
set_option linter.unusedSimpArgs false
set_option maxRecDepth 10000
set_option maxHeartbeats 4000000
mutual
def depT : T → Nat
 | .node _ _ ks => 1 + depTs ks
def depTs : List T → Nat
 | [] => 0
 | t :: ks => max (depT t) (depTs ks)
end
theorem hsl_fz {h : AHeap} {d i n : Nat} {rows : List (List AV)} {q : List (List (AV × Bool))} (hi : h[i]? = some (.arr 0 3 true rows)) (hn : rows.length = n) (hm : mapO (mapO (freeze h d)) rows = some q) :
  freeze h (d + 1) (.hsl i 0 0 n none) = some (.vsl false (q.map (·.map (·.1))), false) := by
 have hg : getArr h i 0 = some (3, true, rows) := by simp only [getArr,hi,if_true]
 have := freeze_hsl (c := none) (o := 0) (n := n) hg (by omega) (d := d) (q := q) (by rw [List.drop_zero, List.take_of_length_le (by omega)]; exact hm)
 exact this
mutual
theorem fz_rep {h : AHeap} : ∀ (t : T) {lo : Nat} {c : List AV} {d : Nat}, RepT h lo t c → depT t ≤ d → ∃ q, mapO (freeze h (d + 1)) c = some q ∧ Enc t (q.map (·.1))
 | .node s r ks, lo, c, d, hr, hd => by
  obtain ⟨kv, rfl, hk⟩ := hr
  rcases hk with ⟨rfl, rfl⟩ | ⟨i, rows, _, rfl, hi, hrs⟩
  ·exact ⟨_, mapO_3 rfl rfl rfl, _, rfl, .inl ⟨rfl, rfl⟩⟩
  ·simp only [depT] at hd
   obtain ⟨d, rfl⟩ : ∃ k, d = k + 1 := ⟨d - 1, by omega⟩
   obtain ⟨q, hq, he⟩ := fz_reps ks hrs (show depTs ks ≤ d by omega)
   refine ⟨_, mapO_3 rfl rfl (hsl_fz hi hrs.len hq), _, rfl, .inr ⟨false, _, rfl, he⟩⟩
theorem fz_reps {h : AHeap} : ∀ (ks : List T) {lo : Nat} {rows : List (List AV)} {d : Nat}, RepTs h lo ks rows → depTs ks ≤ d → ∃ q, mapO (mapO (freeze h (d + 1))) rows = some q ∧ Encs ks (q.map (·.map (·.1)))
 | [], lo, rows, d, hr, hd => by cases hr; exact ⟨[], rfl, rfl⟩
 | t :: ks, lo, rows, d, hr, hd => by
  obtain ⟨c, rest, rfl, h1, h2⟩ := hr
  simp only [depTs] at hd
  obtain ⟨q1, e1, f1⟩ := fz_rep t h1 (show depT t ≤ d by omega)
  obtain ⟨q2, e2, f2⟩ := fz_reps ks h2 (show depTs ks ≤ d by omega)
  exact ⟨q1 :: q2, by simp only [mapO,e1,e2], _, _, rfl, f1, f2⟩
end
end Go.Proofs.Ytkimloceaihplaa.Ai
namespace Go.Proofs.Ytkimloceaihplaa.Ai
open Go
open Int renaming le_refl → Q0
set_option linter.unusedVariables false
set_option linter.unusedSimpArgs false
section
variable {rs : List RuleD} {n : Nat} {L : List (Int × Int)} {y h : List Int}
theorem h_cost (F : Fix3 rs n L y h) : ∀ (q : List Int), (∀ s ∈ q, -(n : Int) ≤ s) → ∀ (m0 a0 m a : Int), hGo y h q m0 a0 = some (m, a) → a < most → 0 ≤ a0 → 1 ≤ m0 → ruleGo L q (a0, m0) = some (a, m) := by
 intro q
 induction q with
 | nil => intro _ m0 a0 m a e _ _ _; rw [hGo] at e; cases e; rfl
 | cons s q ih =>
  intro hq m0 a0 m a e g1 g2 g3
  rw [hGo] at e
  split at e
  ·rename_i p
   have mo := hGo_mono q _ _ _ _ e (by omega)
   rw [ruleGo, lc_pos p, if_neg (by decide)]
   have e1 : min (a0 + 1) far = a0 + 1 := by simp only [most,far] at *; omega
   have e2 : max m0 ((0 : Int) + 1) = m0 := by omega
   simp only [e1,e2]
   exact ih (fun x hx => hq x (by simp [hx])) _ _ _ _ e g1 (by omega) g3
  ·rename_i p
   split at e
   ·cases e
   rename_i p2
   have hs0 := hq s (by simp)
   have hA2 : (-1 - s).toNat < n := by omega
   have y0 : 0 ≤ y.getD (-1 - s).toNat (-1) := by omega
   have mo := hGo_mono q _ _ _ _ e (by simp only [most] at *; omega)
   have ylt : y.getD (-1 - s).toNat (-1) < most := by simp only [most] at *; omega
   have yeq := F.f.eq _ hA2 y0
   have kn := F.kn _ hA2 y0 ylt
   have lk := (F.f.kn _ hA2).2 y0
   have lneg : lc L s = L.getD (-1 - s).toNat (-1, 0) := by unfold lc; rw [if_pos (by omega)]
   rw [ruleGo, lneg, if_neg (by omega)]
   have e1 : min (a0 + (L.getD (-1 - s).toNat (-1, 0)).1) far = min (a0 + y.getD (-1 - s).toNat (-1)) most := by simp only [most,far] at *; omega
   have e2 : max m0 ((L.getD (-1 - s).toNat (-1, 0)).2 + 1) = max m0 (h.getD (-1 - s).toNat 0 + 1) := by rw [kn.2]
   simp only [e1,e2]
   exact ih (fun x hx => hq x (by simp [hx])) _ _ _ _ e g1 (by simp only [most] at *; omega) (by omega)
theorem Fix.side (F : Fix rs n L y) {q : List Int} (hq : ∀ s ∈ q, -(n : Int) ≤ s) : ∀ s ∈ q, 0 ≤ (lc L s).1 → 0 ≤ yk y s ∧ yk y s ≤ (lc L s).1 := fun s hs h0 => by
 by_cases p : s < 0
 ·rw [yk_neg p]; rw [lc_neg p] at h0 ⊢
  have hA : nx s < n := by have := hq s hs; unfold nx; omega
  have k := (F.kn _ hA).1 h0
  have := F.eq _ hA k
  omega
 ·rw [lc_pos (by omega), yk_pos (by omega)]; exact ⟨by decide, by decide⟩
theorem cost_h (F : Fix3 rs n L y h) : ∀ (q : List Int), (∀ s ∈ q, -(n : Int) ≤ s) → ∀ (b c : Int × Int), ruleGo L q b = some c → sumGo y q b.1 = c.1 → c.1 < most → 0 ≤ b.1 → b.1 ≤ most → 1 ≤ b.2 → hGo y h q b.2 b.1 = some (c.2, c.1) := by
 intro q
 induction q with
 | nil => intro _ b c e _ _ _ _ _; rw [ruleGo] at e; cases e; rfl
 | cons s q ih =>
  intro hq b c e es el e1 e2 g2
  have hq' := fun x (hx : x ∈ q) => hq x (by simp [hx])
  have hsd := F.f.side hq
  rw [ruleGo] at e
  split at e
  ·cases e
  rename_i p
  obtain ⟨k1, k2⟩ := hsd s (by simp) (by omega)
  rw [sumGo, if_neg (by omega)] at es
  have hsd' := F.f.side hq'
  have yl : yk y s = (lc L s).1 := by
   by_cases w : yk y s < (lc L s).1
   ·exfalso
    by_cases w2 : min (b.1 + yk y s) most < min (b.1 + (lc L s).1) far
    ·have := cost_sum_lt (y := y) q hsd' (min (b.1 + yk y s) most) _ c (by simp only [most] at *; omega) w2 (by simp only [most] at *; omega) e el
     omega
    ·simp only [most,far] at *; omega
   ·omega
  have nn := (cost_sum (y := y) q hsd' (min (b.1 + yk y s) most) _ c (by simp only [most] at *; omega) (by simp only [most,far] at *; omega) (by simp only [most] at *; omega) e).1
  have mo := sumGo_mono (y := y) q (min (b.1 + yk y s) most) (by simp only [most] at *; omega) (by simp only [most] at *; omega) nn
  have small : b.1 + (lc L s).1 < most := by simp only [most] at *; omega
  have eqs : min (b.1 + yk y s) most = min (b.1 + (lc L s).1) far := by simp only [most,far] at *; omega
  rw [eqs] at es
  have b1 : min (b.1 + (lc L s).1) far = b.1 + (lc L s).1 := by simp only [most,far] at *; omega
  have r1 := ih hq' _ c e es el (by simp only [far] at *; omega) (by simp only [most,far] at *; omega) (by simp only; omega)
  simp only at r1
  by_cases p2 : 0 ≤ s
  ·rw [lc_pos p2] at b1 small r1
   rw [hGo, if_pos p2]
   have m1 : max b.2 ((0 : Int) + 1) = b.2 := by omega
   simp only [b1,m1] at r1
   exact r1
  ·have hs0 := hq s (by simp)
   have hA2 : (-1 - s).toNat < n := by omega
   have lneg : lc L s = L.getD (-1 - s).toNat (-1, 0) := by unfold lc; rw [if_pos (by omega)]
   have yneg : yk y s = y.getD (-1 - s).toNat (-1) := by unfold yk; rw [if_pos (by omega)]
   rw [lneg] at b1 small yl p r1
   rw [yneg] at yl k1
   obtain ⟨hp, he⟩ := F.kn _ hA2 k1 (by omega)
   rw [hGo, if_neg p2, if_neg (by omega)]
   have eqm : min (b.1 + y.getD (-1 - s).toNat (-1)) most = min (b.1 + (L.getD (-1 - s).toNat (-1, 0)).1) far := by rw [yl]; simp only [most,far] at *; omega
   rw [eqm, he]
   exact r1
theorem same_pick (hv : VR rs n) (F : Fix3 rs n L y h) {A : Nat} (hA : A < n) (h0 : 0 ≤ y.getD A (-1)) (h1 : y.getD A (-1) < most) {r : RuleD} (hr : r ∈ rs) (hl : r.left = A) : (ruleGo L r.right (0, 1) = some (L.getD A (-1, 0)) ↔ heightD y h r = h.getD A 0) := by
 obtain ⟨v1, v2, v3⟩ := hv r hr
 have kn := F.kn A hA h0 h1
 have yeq := F.f.eq A hA h0
 have lk := (F.f.kn A hA).2 h0
 have eA : r.left.toNat = A := by omega
 have le : (L.getD A (-1, 0)).1 = y.getD A (-1) := by simp only [most] at *; omega
 constructor
 ·intro e
  obtain ⟨g1, g2⟩ := cost_sum (y := y) (l := L) r.right (F.f.side v3) 0 (0, 1) _ (Q0 _) (Q0 _) (by decide) e
  have st := yStable (F.f.ys r hr) g1
  rw [eA] at st
  have := cost_h F r.right v3 (0, 1) _ e (by simp only; omega) (by omega) (Q0 _) (by decide) (Q0 _)
  unfold heightD
  rw [this]
  simp only
  rw [eA, if_neg (by simp only [most] at *; omega), kn.2]
 ·intro e
  have pos : 0 < heightD y h r := by omega
  unfold heightD at e pos
  split at pos
  ·omega
  rename_i m a hg
  rw [hg] at e
  simp only at e
  split at pos
  ·omega
  rename_i ha
  rw [if_neg ha] at e
  rw [eA] at ha
  have ha' : min a most = y.getD A (-1) := by simpa using ha
  have := h_cost F r.right v3 1 0 m a hg (by simp only [most] at *; omega) (Q0 _) (Q0 _)
  rw [this]
  congr 1
  have a1 : a = (L.getD A (-1, 0)).1 := by simp only [most] at *; omega
  have a2 : m = (L.getD A (-1, 0)).2 := by omega
  rw [a1, a2]
def pickD (rs : List RuleD) (y h : List Int) (A : Nat) : Nat := rs.findIdx fun r => decide (r.left = (A : Int)) && decide (heightD y h r = h.getD A 0)
def shT (rs : List RuleD) (y h : List Int) : Nat → Int → T
 | 0, s => leafT s
 | f + 1, s => if 0 ≤ s then leafT s else
  match rs[pickD rs y h (nx s)]? with
  | none => leafT s
  | some r => .node s (pickD rs y h (nx s)) (r.right.map (shT rs y h f))
def Sm (n : Nat) (y : List Int) (s : Int) : Prop := 0 ≤ s ∨ (nx s < n ∧ 0 ≤ y.getD (nx s) (-1) ∧ y.getD (nx s) (-1) < most)
def rkS (h : List Int) (s : Int) : Nat := if 0 ≤ s then 0 else (h.getD (nx s) 0).toNat
theorem hGo_parts : ∀ (q : List Int), ∀ (m0 a0 m a : Int), hGo y h q m0 a0 = some (m, a) → 0 ≤ a0 → a < most → ∀ s ∈ q, 0 ≤ s ∨ (0 ≤ y.getD (nx s) (-1) ∧ y.getD (nx s) (-1) ≤ a ∧ h.getD (nx s) 0 ≠ 0 ∧ h.getD (nx s) 0 + 1 ≤ m) := by
 intro q
 induction q with
 | nil => intro _ _ _ _ _ _ _ s hs; simp at hs
 | cons x q ih =>
  intro m0 a0 m a e h0 h1 s hs
  rw [hGo] at e
  split at e
  ·rename_i p
   rcases List.mem_cons.1 hs with rfl | hs
   ·exact .inl p
   ·exact ih _ _ _ _ e (by omega) h1 s hs
  ·rename_i p
   split at e
   ·cases e
   rename_i p2
   have mo := hGo_mono q _ _ _ _ e (by simp only [most] at *; omega)
   rcases List.mem_cons.1 hs with rfl | hs
   ·right
    have : nx s = (-1 - s).toNat := rfl
    rw [this]
    simp only [most] at *
    omega
   ·exact ih _ _ _ _ e (by simp only [most] at *; omega) h1 s hs
theorem pick_ok (hv : VR rs n) (F : Fix3 rs n L y h) {A : Nat} (hA : A < n) (h0 : 0 ≤ y.getD A (-1)) (h1 : y.getD A (-1) < most) : ∃ r, rs[pickD rs y h A]? = some r ∧ r ∈ rs ∧ r.left = A ∧ heightD y h r = h.getD A 0 ∧ ∀ s ∈ r.right, Sm n y s ∧ rkS h s < (h.getD A 0).toNat := by
 have kn := F.kn A hA h0 h1
 obtain ⟨q, q1, q2, q3⟩ := F.sup A hA kn.1
 have lt : pickD rs y h A < rs.length := List.findIdx_lt_length_of_exists ⟨q, q1, by simp [q2, q3]⟩
 have sat : (decide ((rs[pickD rs y h A]).left = (A : Int)) && decide (heightD y h (rs[pickD rs y h A]) = h.getD A 0)) = true := List.findIdx_getElem (xs := rs) (p := fun r : RuleD => decide (r.left = (A : Int)) && decide (heightD y h r = h.getD A 0)) (w := lt)
 rw [Bool.and_eq_true, decide_eq_true_eq, decide_eq_true_eq] at sat
 have mem := List.getElem_mem lt
 obtain ⟨v1, v2, v3⟩ := hv _ mem
 refine ⟨rs[pickD rs y h A], List.getElem?_eq_getElem lt, mem, sat.1, sat.2, fun s hs => ?_⟩
 have sat2 := sat.2
 obtain ⟨r, hr⟩ : ∃ r, r = rs[pickD rs y h A] := ⟨_, rfl⟩
 have sat1 : r.left = (A : Int) := by rw [hr]; exact sat.1
 have sat2 : heightD y h r = h.getD A 0 := by rw [hr]; exact sat.2
 rw [← hr] at hs v3
 have pos : 0 < heightD y h r := by omega
 unfold heightD at pos sat2
 split at pos
 ·omega
 rename_i m a hg
 rw [hg] at sat2
 simp only at sat2
 split at pos
 ·omega
 rename_i ha
 rw [if_neg ha] at sat2
 have ha' : min a most = y.getD r.left.toNat (-1) := by simpa using ha
 have eA : r.left.toNat = A := by omega
 rw [eA] at ha'
 have pt := hGo_parts (y := y) (h := h) r.right 1 0 m a hg (Q0 _) (by simp only [most] at *; omega) s hs
 by_cases p : 0 ≤ s
 ·exact ⟨.inl p, by unfold rkS; rw [if_pos p]; omega⟩
 ·rcases pt with pt | ⟨t1, t2, t3, t4⟩
  ·exact absurd pt p
  ·have hn : nx s < n := by have := v3 s hs; unfold nx; omega
   refine ⟨.inr ⟨hn, t1, by simp only [most] at *; omega⟩, ?_⟩
   unfold rkS
   rw [if_neg p]
   have := F.nn (nx s)
   omega
theorem shT_fuel (hv : VR rs n) (F : Fix3 rs n L y h) : ∀ (f : Nat) (s : Int), Sm n y s → rkS h s ≤ f → shT rs y h (f + 1) s = shT rs y h f s := by
 intro f
 induction f with
 | zero =>
  intro s hs hr
  by_cases p : 0 ≤ s
  ·simp only [shT,if_pos p]
  ·exfalso
   rcases hs with hs | ⟨h1, h2, h3⟩
   ·exact p hs
   ·have := F.kn _ h1 h2 h3
    unfold rkS at hr
    rw [if_neg p] at hr
    omega
 | succ f ih =>
  intro s hs hr
  rw [shT, shT]
  by_cases p : 0 ≤ s
  ·rw [if_pos p, if_pos p]
  ·rw [if_neg p, if_neg p]
   rcases hs with hs | ⟨h1, h2, h3⟩
   ·exact absurd hs p
   obtain ⟨r, r1, r2, r3, r4, r5⟩ := pick_ok hv F h1 h2 h3
   rw [r1]
   simp only
   congr 1
   refine List.map_congr_left (fun x hx => ?_)
   obtain ⟨x1, x2⟩ := r5 x hx
   unfold rkS at hr
   rw [if_neg p] at hr
   exact ih x x1 (by omega)
theorem shT_in (hv : VR rs n) (F : Fix3 rs n L y h) {f : Nat} {s : Int} (hs : Sm n y s) (hr : rkS h s ≤ f) (p : ¬ 0 ≤ s) : ∃ r, rs[pickD rs y h (nx s)]? = some r ∧ r ∈ rs ∧ r.left = nx s ∧ heightD y h r = h.getD (nx s) 0 ∧ (∀ x ∈ r.right, Sm n y x ∧ rkS h x < rkS h s ∧ rkS h x ≤ f) ∧ shT rs y h f s = .node s (pickD rs y h (nx s)) (r.right.map (shT rs y h f)) := by
 rcases hs with hs | ⟨h1, h2, h3⟩
 ·exact absurd hs p
 obtain ⟨r, r1, r2, r3, r4, r5⟩ := pick_ok hv F h1 h2 h3
 have e : rkS h s = (h.getD (nx s) 0).toNat := by unfold rkS; rw [if_neg p]
 have kn := F.kn _ h1 h2 h3
 refine ⟨r, r1, r2, r3, r4, fun x hx => ⟨(r5 x hx).1, by rw [e]; exact (r5 x hx).2, by have := (r5 x hx).2; omega⟩, ?_⟩
 obtain ⟨f', rfl⟩ : ∃ f', f = f' + 1 := ⟨f - 1, by omega⟩
 have step : shT rs y h (f' + 1) s = .node s (pickD rs y h (nx s)) (r.right.map (shT rs y h f')) := by rw [shT, if_neg p, r1]
 rw [step]
 congr 1
 refine List.map_congr_left (fun x hx => ?_)
 obtain ⟨x1, x2⟩ := r5 x hx
 exact (shT_fuel hv F f' x x1 (by omega)).symm
theorem shT_leaf (f : Nat) {s : Int} (p : 0 ≤ s) : shT rs y h f s = leafT s := by
 cases f with
 | zero => rfl
 | succ f => rw [shT, if_pos p]
theorem shT_sym (f : Nat) (s : Int) : (shT rs y h f s).sym = s := by
 cases f with
 | zero => rfl
 | succ f =>
  rw [shT]
  split
  ·rfl
  ·split <;> rfl
theorem depTs_le : ∀ (ks : List T) (d : Nat), (∀ t ∈ ks, depT t ≤ d) → depTs ks ≤ d := by
 intro ks
 induction ks with
 | nil => intro d _; simp [depTs]
 | cons t ks ih =>
  intro d h
  rw [depTs]
  have h1 := h t (by simp)
  have h2 := ih d (fun x hx => h x (by simp [hx]))
  omega
theorem shT_dep (hv : VR rs n) (F : Fix3 rs n L y h) : ∀ (f : Nat) (s : Int), Sm n y s → rkS h s ≤ f → depT (shT rs y h f s) ≤ rkS h s + 1 := by
 intro f
 induction f with
 | zero => intro s _ _; rw [shT]; simp [leafT, depT, depTs]
 | succ f ih =>
  intro s hs hr
  by_cases p : 0 ≤ s
  ·rw [shT_leaf _ p]; simp [leafT, depT, depTs]
  ·obtain ⟨r, r1, r2, r3, r4, r5, r6⟩ := shT_in hv F hs hr p
   rw [r6, depT]
   have : depTs (r.right.map (shT rs y h (f + 1))) ≤ rkS h s := by
    refine depTs_le _ _ (fun t ht => ?_)
    obtain ⟨x, hx, rfl⟩ := List.mem_map.1 ht
    obtain ⟨x1, x2, x3⟩ := r5 x hx
    rw [shT_fuel hv F f x x1 (by omega)]
    have := ih x x1 (by omega)
    omega
   omega
def sizS (rs : List RuleD) (y h : List Int) (f : Nat) (q : List Int) : Nat := sizeNs (q.map (shT rs y h f))
def shF (rs : List RuleD) (y h : List Int) (f : Nat) (s : Int) (z : Nat) : (T × Int) × Nat :=
 if z + sizeN (shT rs y h f s) ≤ 65536 then ((shT rs y h f s, 0), z + sizeN (shT rs y h f s)) else ((zeroT, 4), z)
theorem sizeNs_rev : ∀ ks : List T, sizeNs ks.reverse = sizeNs ks := by
 intro ks
 induction ks with
 | nil => rfl
 | cons t ks ih => rw [List.reverse_cons, sizeNs_app, ih, sizeNs, sizeNs, sizeNs]; omega
theorem kidsGo_sh (f : Nat) : ∀ (l : List Int) (acc : List T) (z : Nat), z ≤ 65536 → (z + sizS rs y h f l ≤ 65536 → kidsGo (shF rs y h f) l acc z = (((l.map (shT rs y h f)).reverse ++ acc, 0), z + sizS rs y h f l)) ∧ (¬ z + sizS rs y h f l ≤ 65536 → (kidsGo (shF rs y h f) l acc z).1.2 = 4) := by
 intro l
 induction l with
 | nil =>
  intro acc z hz
  have e : sizS rs y h f [] = 0 := rfl
  rw [e]
  exact ⟨fun _ => rfl, fun k => absurd hz (by omega)⟩
 | cons s l ih =>
  intro acc z hz
  have e : sizS rs y h f (s :: l) = sizeN (shT rs y h f s) + sizS rs y h f l := rfl
  rw [e]
  by_cases c : z + sizeN (shT rs y h f s) ≤ 65536
  ·have e1 : shF rs y h f s z = ((shT rs y h f s, 0), z + sizeN (shT rs y h f s)) := if_pos c
   simp only [kidsGo,e1]
   rw [if_neg (by simp)]
   obtain ⟨k1, k2⟩ := ih (shT rs y h f s :: acc) (z + sizeN (shT rs y h f s)) c
   refine ⟨fun k => ?_, fun k => k2 (by omega)⟩
   rw [k1 (by omega), List.map_cons, List.reverse_cons, List.append_assoc]
   congr 1
   omega
  ·have e1 : shF rs y h f s z = ((zeroT, 4), z) := if_neg c
   simp only [kidsGo,e1]
   rw [if_pos (by decide)]
   exact ⟨fun k => by omega, fun _ => rfl⟩
end
end Go.Proofs.Ytkimloceaihplaa.Ai
namespace Go.Proofs.Ytkimloceaihplaa.Ai
open Go Go.Proofs
set_option linter.unusedVariables false
set_option linter.unusedSimpArgs false
set_option maxRecDepth 10000
set_option maxHeartbeats 4000000
theorem ix_hvE {h : AHeap} {i ver n : Nat} {sz : Nat} {x : Bool} {rows : List (List AV)} {c : Option Nat} (hi : h[i]? = some (.arr ver sz x rows)) {k : IntKind} {j : Nat} (hj : j < n) : aindexAddr h sz (.hsl i ver 0 n c) (.int k j) = some (.ptr i ver j 0) := by
 have : (0 : Int) ≤ j ∧ (j : Int) < n := by omega
 simp [aindexAddr, getArr, hi, hj]
theorem eIs_getE (l : List Int) (j : Nat) (hj : j < l.length) : (eIs l)[j]? = some [.int .i64 l[j]] := by simp [eIs, eI, hj]
theorem eIs_set (l : List Int) (j : Nat) (n : Int) : (eIs l).set j [.int .i64 n] = eIs (l.set j n) := by simp [eIs, eI, List.map_set]
theorem ldI {h : AHeap} {i ver : Nat} {x : Bool} {l : List Int} {tl : List (List AV)} (hi : h[i]? = some (.arr ver 1 x (eIs l ++ tl))) {j : Nat} (hj : j < l.length) : aload h 1 false (.ptr i ver j 0) = some (.int .i64 l[j]) := by
 have e : (eIs l ++ tl)[j]? = some [.int .i64 l[j]] := by rw [List.getElem?_append_left (by rw [Zep]; exact hj), eIs_getE l j hj]
 rw [ld_p h 1 i ver j 0 false 1 x _ _ hi e]
 rfl
theorem stI {h : AHeap} {i ver : Nat} {x : Bool} {l : List Int} {tl : List (List AV)} (hi : h[i]? = some (.arr ver 1 x (eIs l ++ tl))) {j : Nat} (hj : j < l.length) (n : Int) : astore h 1 (.ptr i ver j 0) (.int .i64 n) = some (h.set i (.arr ver 1 x (eIs (l.set j n) ++ tl))) := by
 have e : (eIs l ++ tl)[j]? = some [.int .i64 l[j]] := by rw [List.getElem?_append_left (by rw [Zep]; exact hj), eIs_getE l j hj]
 rw [st_p h 1 i ver j 0 _ 1 x _ _ hi e rfl (by simp) rfl]
 have e2 : (eIs l ++ tl).set j (putCells [AV.int .i64 l[j]] 0 (cellsOf (.int .i64 n))) = eIs (l.set j n) ++ tl := by
  rw [List.set_append_left _ _ (by rw [Zep]; exact hj)]
  have : putCells [AV.int .i64 l[j]] 0 (cellsOf (.int .i64 n)) = [.int .i64 n] := rfl
  rw [this, eIs_set]
 rw [e2]
def OwnG (sz : Nat) (rows : List (List AV)) (v : AV) (h : AHeap) (q : Option Nat) : Prop :=
 (rows = [] ∧ v = .nilS ∧ q = none) ∨ (rows ≠ [] ∧ ∃ i ver, q = some i ∧ v = .hsl i ver 0 rows.length none ∧ h[i]? = some (.arr ver sz false rows))
theorem OwnG.nil (sz : Nat) (h : AHeap) : OwnG sz [] .nilS h none := .inl ⟨rfl, rfl, rfl⟩
theorem OwnG.frame {sz : Nat} {rows : List (List AV)} {v : AV} {h h' : AHeap} {q : Option Nat} (ho : OwnG sz rows v h q) (hf : ∀ i o, q = some i → h[i]? = some o → h'[i]? = some o) : OwnG sz rows v h' q := by
 rcases ho with ho | ⟨h1, i, ver, h2, h3, h4⟩
 ·exact .inl ho
 ·exact .inr ⟨h1, i, ver, h2, h3, hf i _ h2 h4⟩
theorem OwnG.len {sz : Nat} {rows : List (List AV)} {v : AV} {h : AHeap} {q : Option Nat} (ho : OwnG sz rows v h q) (h' : AHeap) : alen h' .slice v = some (.int .i64 rows.length) := by
 rcases ho with ⟨h1, h2, _⟩ | ⟨h1, i, ver, h2, h3, h4⟩
 ·subst h1 h2; rfl
 ·subst h3; rfl
theorem OwnG.cell {sz : Nat} {rows : List (List AV)} {v : AV} {h : AHeap} {q : Option Nat} (ho : OwnG sz rows v h q) : cellsOf v = [v] ∧ cellOk v = true := by
 rcases ho with ⟨_, h2, _⟩ | ⟨_, i, ver, _, h3, _⟩
 ·subst h2; exact ⟨rfl, rfl⟩
 ·subst h3; exact ⟨rfl, rfl⟩
theorem OwnG.lt {sz : Nat} {rows : List (List AV)} {v : AV} {h : AHeap} {i : Nat} (ho : OwnG sz rows v h (some i)) : i < h.length := by
 rcases ho with ⟨_, _, h⟩ | ⟨_, j, ver, h2, _, h4⟩
 ·cases h
 ·cases h2; exact get_len h4
theorem OwnG.push {sz : Nat} {rows : List (List AV)} {c : List AV} {v : AV} {h : AHeap} {q : Option Nat} (e : Bool) (ho : OwnG sz rows v h q) (hsz : c.length = sz) (hc : c.all cellOk = true) (hall : rows.all (fun c => c.length == sz && c.all cellOk) = true) (bytes : Nat) (hb : bytes ≤ 1000) (hl : rows.length ≤ 1000000) :
  ∃ i ver h', aapp h sz bytes v (.vsl e [c]) = some (.hsl i ver 0 (rows.length + 1) none, h') ∧ OwnG sz (rows ++ [c]) (.hsl i ver 0 (rows.length + 1) none) h' (some i) ∧ (∀ j o, h[j]? = some o → q ≠ some j → h'[j]? = some o) ∧ (q = some i ∨ (q = none ∧ i = h.length)) ∧ h.length ≤ h'.length := by
 have hel : elemsOf h sz (.vsl e [c]) = some [c] := by simp [elemsOf, hsz]
 have hc1 : (c.length == sz && c.all cellOk) = true := by rw [hc, hsz]; simp
 unfold aapp
 rw [hel]
 simp only [Option.elim_some,aappend,List.length_cons,List.length_nil]
 rcases ho with ⟨rfl, rfl, rfl⟩ | ⟨h1, i, ver, rfl, rfl, h3⟩
 ·have hcd : [c].length * (bytes + 1) ≤ 68719476736 ∧ [c].all (fun c => c.length == sz && c.all cellOk) = true := ⟨by simp; omega, by simp only [List.all_cons,List.all_nil,hc1]; rfl⟩
  refine ⟨h.length, 0, h ++ [.arr 0 sz false [c]], by simp only [aappendN,freshArr]; rw [if_pos hcd]; rfl, .inr ⟨by simp, h.length, 0, rfl, by simp, by simp⟩, fun j o e _ => get_app e _, .inr ⟨rfl, rfl⟩, by simp⟩
 ·have hne : ¬ (0 + rows.length + [c].length ≤ rows.length ∧ inRoom (rows.length + [c].length) none = true) := by
   simp only [List.length_cons,List.length_nil]; omega
  have hc2 : True ∧ 0 + rows.length ≤ rows.length := ⟨trivial, by omega⟩
  have htk : (List.drop 0 rows).take rows.length = rows := by rw [List.drop_zero]; exact List.take_of_length_le (Nat.le_refl _)
  have hall2 : (rows ++ [c]).all (fun c => c.length == sz && c.all cellOk) = true := by rw [List.all_append, hall]; simp only [List.all_cons,List.all_nil,hc1]; rfl
  have hlen : (rows ++ [c]).length = rows.length + 1 := by simp
  have hcd : (rows ++ [c]).length * (bytes + 1) ≤ 68719476736 ∧ (rows ++ [c]).all (fun c => c.length == sz && c.all cellOk) = true := by
   refine ⟨?_, hall2⟩
   rw [hlen]
   have : (rows.length + 1) * (bytes + 1) ≤ 1000001 * 1001 := Nat.mul_le_mul (by omega) (by omega)
   omega
  refine ⟨i, ver + 1, h.set i (.arr (ver + 1) sz false (rows ++ [c])), ?_, .inr ⟨by simp, i, ver + 1, rfl, by simp, get_set_eq h3⟩, fun j o e hn => get_set_ne e (fun he => hn (by rw [he])), .inl rfl, by simp⟩
  simp only [aappendN,getArr,h3,if_true]
  rw [if_pos hc2, if_neg hne]
  simp only [htk]
  rw [if_pos hcd, hlen]
  rfl
theorem eIs_zeros (k : Nat) : eIs (List.replicate k 0) = List.replicate k [AV.int .i64 0] := by simp [eIs, eI]
theorem lit1' (h : AHeap) (z a : AV) (ha : pure1 a = true) (ca : cellsOf a = [a]) : abs0 h false 1 1 [z] [(0, a)] = some (.vsl true [[a]], h) := by
 simp [abs0, fillCells, flatParts, putCells, ca, chop, ha]
theorem OwnG.ix1 {cs : List (List AV)} {v : AV} {h : AHeap} {q : Option Nat} (ho : OwnG 1 cs v h q) {j : Nat} {rv : AV} (hj : cs[j]? = some [rv]) : ∃ p, (∀ k : IntKind, aindexAddr h 1 v (.int k j) = some p) ∧ aload h 1 false p = some rv := by
 have hl := (List.getElem?_eq_some_iff.1 hj).1
 rcases ho with ⟨h1, _⟩ | ⟨h1, i, ver, h2, h3, h4⟩
 ·subst h1; simp at hl
 ·subst h3
  refine ⟨.ptr i ver j 0, fun k => ix_hvE h4 hl, ?_⟩
  rw [ld_p h 1 i ver j 0 false 1 false _ _ h4 hj]
  rfl
theorem OwnG.putI {l : List Int} {v : AV} {h : AHeap} {q : Option Nat} (ho : OwnG 1 (eIs l) v h q) {j : Nat} (hj : j < l.length) (n : Int) : ∃ (i : Nat) (p : AV) (h' : AHeap), q = some i ∧ (∀ k : IntKind, aindexAddr h 1 v (.int k j) = some p) ∧ astore h 1 p (.int .i64 n) = some h' ∧ OwnG 1 (eIs (l.set j n)) v h' (some i) ∧ (∀ (r : Nat) (o : AObj), h[r]? = some o → r ≠ i → h'[r]? = some o) ∧ h'.length = h.length := by
 rcases ho with ⟨h1, _⟩ | ⟨h1, i, ver, h2, h3, h4⟩
 ·have : l = [] := by cases l with | nil => rfl | cons a l => simp [eIs] at h1
  subst this; simp at hj
 ·subst h3
  have hi' : h[i]? = some (.arr ver 1 false (eIs l ++ [])) := by rw [List.append_nil]; exact h4
  have s := stI hi' hj n
  rw [List.append_nil] at s
  refine ⟨i, .ptr i ver j 0, _, h2, fun k => ix_hvE h4 (by rw [Zep]; exact hj), s, .inr ⟨?_, i, ver, rfl, by rw [Zep, Zep, List.length_set], get_set_eq h4⟩, fun r o e hne => get_set_ne e (Ne.symm hne), by simp⟩
  intro e
  have := congrArg List.length e
  rw [Zep, List.length_set] at this
  simp at this
  subst this; simp at hj
theorem mk_I (h : AHeap) (n : Nat) (hn : n ≤ 1000000) : amk h 1 8 [.int .i64 0] (.int .i64 n) (.int .i64 n) = some (.hsl h.length 0 0 n none, h ++ [.arr 0 1 true (eIs (List.replicate n 0))]) := by
 simp only [amk]
 rw [if_pos ⟨by omega, by omega, by omega⟩, eIs_zeros]
 have : ((n : Nat) : Int).toNat = n := by omega
 rw [this]
theorem freeze_hslG {h : AHeap} {d i ver n sz : Nat} {x : Bool} {cc : Option Nat} {rows : List (List AV)} {q : List (List (AV × Bool))} (hi : h[i]? = some (.arr ver sz x rows)) (hn : n ≤ rows.length) (hm : mapO (mapO (freeze h d)) (rows.take n) = some q) :
  freeze h (d + 1) (.hsl i ver 0 n cc) = some (.vsl false (q.map (·.map (·.1))), false) := by
 have hg : getArr h i ver = some (sz, x, rows) := by simp only [getArr,hi,if_true]
 simp only [freeze,hg]
 rw [if_pos (by omega), List.drop_zero, hm]
 rfl
theorem fzI {l : List Int} {w : AV} {h : AHeap} {q : Option Nat} (ho : OwnG 1 (eIs l) w h q) (d : Nat) : ∃ x c, freeze h (d + 2) w = some (x, c) ∧ Li l x := by
 rcases ho with ⟨h1, h2, _⟩ | ⟨h1, i, ver, _, h3, h4⟩
 ·subst h2
  have : l = [] := by cases l with | nil => rfl | cons a l => simp [eIs] at h1
  exact ⟨.nilS, true, rfl, .inl ⟨this, rfl⟩⟩
 ·subst h3
  have hm : ∀ l : List Int, ∃ q, mapO (mapO (freeze h (d + 1))) (eIs l) = some q ∧ q.map (·.map (·.1)) = eIs l := by
   intro l
   induction l with
   | nil => exact ⟨[], rfl, rfl⟩
   | cons a l ih =>
    obtain ⟨q, e1, e2⟩ := ih
    have e3 : mapO (freeze h (d + 1)) [.int .i64 a] = some [(.int .i64 a, true)] := rfl
    have e4 : eIs (a :: l) = [.int .i64 a] :: eIs l := rfl
    exact ⟨[(.int .i64 a, true)] :: q, by rw [e4]; simp only [mapO] at e3 ⊢; simp only [e3,e1], by rw [e4]; simp [e2]⟩
  obtain ⟨q, e1, e2⟩ := hm l
  have := freeze_hslG (d := d + 1) (n := (eIs l).length) (cc := none) (q := q) h4 (Nat.le_refl _) (by rw [List.take_length]; exact e1)
  exact ⟨_, false, this, .inr ⟨false, by rw [e2]⟩⟩
theorem mapO_eIs {h : AHeap} {d : Nat} : ∀ l : List Int, ∃ q, mapO (mapO (freeze h (d + 1))) (eIs l) = some q ∧ q.map (·.map (·.1)) = eIs l := by
 intro l
 induction l with
 | nil => exact ⟨[], rfl, rfl⟩
 | cons a l ih =>
  obtain ⟨q, e1, e2⟩ := ih
  have e3 : mapO (freeze h (d + 1)) [.int .i64 a] = some [(.int .i64 a, true)] := rfl
  have e4 : eIs (a :: l) = [.int .i64 a] :: eIs l := rfl
  exact ⟨[(.int .i64 a, true)] :: q, by rw [e4]; simp only [mapO] at e3 ⊢; simp only [e3,e1], by rw [e4]; simp [e2]⟩
theorem fzH {l : List Int} {i n : Nat} {h : AHeap} {cc : Option Nat} {tl : List (List AV)} {b : Bool} (hi : h[i]? = some (.arr 0 1 b (eIs l ++ tl))) (hn : n = l.length) (d : Nat) : ∃ x c, freeze h (d + 2) (.hsl i 0 0 n cc) = some (x, c) ∧ Li l x := by
 subst hn
 obtain ⟨q, e1, e2⟩ := mapO_eIs (h := h) (d := d) l
 have tk : (eIs l ++ tl).take l.length = eIs l := List.take_left' (Zep l)
 have := freeze_hslG (d := d + 1) (n := l.length) (cc := cc) (q := q) hi (by rw [List.length_append, Zep]; omega) (by rw [tk]; exact e1)
 exact ⟨_, false, this, .inr ⟨false, by rw [e2]⟩⟩
end Go.Proofs.Ytkimloceaihplaa.Ai
