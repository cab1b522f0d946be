/- TreeBack: the law. -/
import Derived.Test.YtkimloceaihplaamTD
import Derived.Test.YtkimloceaihplaamKn1
import Derived.Test.YtkimloceaihplaamFw1
import Derived.Test.YtkimloceaihplaamTG
import Derived.Test.YtkimloceaihplaamTL
namespace Go.Proofs.Ytkimloceaihplaa.Ai
open Go Go.Proofs
set_option linter.unusedVariables false
set_option linter.unusedSimpArgs false
set_option maxRecDepth 10000
set_option maxHeartbeats 4000000
theorem yieldTs_in {ks : List T} {P : Int → Prop} (h : ∀ t ∈ ks, ∀ k ∈ yieldT t, P k) : ∀ k ∈ yieldTs ks, P k := by
 induction ks with
 | nil => intro k hk; cases hk
 | cons a l ih =>
  intro k hk
  simp only [yieldTs,List.mem_append] at hk
  rcases hk with hk | hk
  ·exact h a (List.mem_cons_self ..) k hk
  ·exact ih (fun t ht => h t (List.mem_cons_of_mem _ ht)) k hk
theorem Enc.kv {t : T} {kv : AV} (h : Enc t [.int .i64 t.sym, .int .i64 t.rule, kv]) : kv = .nilS ∨ ∃ e rows, kv = .vsl e rows := by
 obtain ⟨s, r, ks⟩ := t
 obtain ⟨kv', e, h⟩ := h
 simp only [List.cons.injEq,and_true] at e
 obtain ⟨_, _, rfl⟩ := e
 rcases h with ⟨_, h⟩ | ⟨e, rows, h, _⟩
 ·exact .inl h
 ·exact .inr ⟨e, rows, h⟩
end Go.Proofs.Ytkimloceaihplaa.Ai
namespace Go.Proofs.Ytkimloceaihplaa.Ai
open Go Go.Proofs
open Bool renaming and_eq_true → Q0
open List renaming map_cons → Q1
set_option linter.unusedVariables false
set_option linter.unusedSimpArgs false
set_option maxRecDepth 10000
set_option maxHeartbeats 4000000
section
variable {g : GramD} {L : List (Int × Int)} {y h : List Int}
theorem sym_there (gd : Good g) {r : RuleD} (hr : r ∈ g.rules) {s : Int} (hs : s ∈ r.right) : isSym g s = true := by
 have := (gd.rule hr).2.2.2 s hs
 unfold badSym at this
 rw [Bool.or_eq_false_iff] at this
 simpa using this.1
theorem shT_node (hg : GramR g) (F : Fix3 g.rules g.nonterms.length L y h) (f : Nat) : ∀ (j : Nat), j ≤ f → ∀ (s : Int), Sm g.nonterms.length y s → rkS h s ≤ j → isSym g s = true → nodeB g (shT g.rules y h f s) = true ∧ okT (shT g.rules y h f s) := by
 have leaf : ∀ s : Int, 0 ≤ s → isSym g s = true → nodeB g (shT g.rules y h f s) = true ∧ okT (shT g.rules y h f s) := fun s p hs => by
  have tm := hg.good.tm
  have hs' := hs
  simp only [isSym,Q0,decide_eq_true_eq] at hs'
  rw [shT_leaf f p]
  refine ⟨by simp [leafT, nodeB, nodesB, fitsB, hs], ⟨⟨by omega, by omega⟩, ⟨by decide, by decide⟩, by simp, trivial⟩⟩
 intro j
 induction j with
 | zero =>
  intro _ s hs hr hi
  refine leaf s ?_ hi
  apply Classical.byContradiction
  intro p
  rcases hs with hs | ⟨h1, h2, h3⟩
  ·exact p hs
  ·have := F.kn _ h1 h2 h3
   unfold rkS at hr
   rw [if_neg p] at hr
   omega
 | succ j ih =>
  intro hjf s hs hr hi
  by_cases p : 0 ≤ s
  ·exact leaf s p hi
  obtain ⟨r, r1, r2, r3, r4, r5, r6⟩ := shT_in hg.vr F hs (by omega : rkS h s ≤ f) p
  obtain ⟨k, hk⟩ : ∃ k, k = pickD g.rules y h (nx s) := ⟨_, rfl⟩
  rw [← hk] at r1 r6
  have kl := (List.getElem?_eq_some_iff.1 r1).1
  have hgl := hg.ok.rules
  rw [maxLen_eq] at hgl
  obtain ⟨s1, s2⟩ := hg.sym r2
  have nt := hg.good.nt
  have hi' := hi
  simp only [isSym,Q0,decide_eq_true_eq] at hi'
  have kids : ∀ t ∈ r.right.map (shT g.rules y h f), nodeB g t = true ∧ okT t := fun t ht => by
   obtain ⟨x, hx, rfl⟩ := List.mem_map.1 ht
   obtain ⟨t1, t2, t3⟩ := r5 x hx
   exact ih (by omega) x t1 (by omega) (sym_there hg.good r2 hx)
  have syms : (r.right.map (shT g.rules y h f)).map T.sym = r.right := by
   rw [List.map_map]
   have : ∀ x ∈ r.right, (T.sym ∘ shT g.rules y h f) x = x := fun x _ => shT_sym f x
   rw [List.map_congr_left this, List.map_id']
  rw [r6]
  refine ⟨?_, ⟨⟨by omega, by omega⟩, ⟨by omega, by omega⟩, by rw [List.length_map, maxLen_eq]; omega, okTs_of fun t ht => (kids t ht).2⟩⟩
  simp only [nodeB,fitsB,nodesB_eq,Q0]
  refine ⟨?_, List.all_eq_true.2 fun t ht => (kids t ht).1⟩
  have e1 : (k : Int).toNat = k := by omega
  have e2 : s = -1 - r.left := by rw [r3]; unfold nx; omega
  rw [if_neg (by omega), if_neg (by omega), e1, r1]
  simp only [syms,decide_true,Bool.and_true]
  exact decide_eq_true e2
theorem hGo_sum : ∀ (q : List Int) (m0 a0 m a : Int), hGo y h q m0 a0 = some (m, a) → 0 ≤ a0 → a < most → a = a0 + (q.map (yk y)).sum := by
 intro q
 induction q with
 | nil => intro m0 a0 m a e _ _; rw [hGo] at e; cases e; simp
 | cons s q ih =>
  intro m0 a0 m a e h0 h1
  rw [hGo] at e
  have fm : most = 1000000 := rfl
  split at e
  ·rename_i p
   have := ih _ _ _ _ e (by omega) h1
   rw [Q1, List.sum_cons, yk_pos p]
   omega
  ·rename_i p
   split at e
   ·cases e
   rename_i p2
   have mo := hGo_mono q _ _ _ _ e (by omega)
   have := ih _ _ _ _ e (by omega) h1
   have e3 : yk y s = y.getD (-1 - s).toNat (-1) := yk_neg (by omega)
   rw [Q1, List.sum_cons, e3]
   omega
theorem yieldTs_sum (f : Int → T) : ∀ q : List Int, (∀ x ∈ q, ((yieldT (f x)).length : Int) = yk y x) → ((yieldTs (q.map f)).length : Int) = (q.map (yk y)).sum := by
 intro q
 induction q with
 | nil => intro _; rfl
 | cons s q ih =>
  intro hq
  have h1 := hq s (by simp)
  have h2 := ih (fun x hx => hq x (by simp [hx]))
  rw [Q1, Q1, List.sum_cons, yieldTs, List.length_append]
  omega
theorem shT_yield (hg : GramR g) (F : Fix3 g.rules g.nonterms.length L y h) (f : Nat) : ∀ (j : Nat), j ≤ f → ∀ (s : Int), Sm g.nonterms.length y s → rkS h s ≤ j → (∀ x ∈ yieldT (shT g.rules y h f s), 0 ≤ x) ∧ ((yieldT (shT g.rules y h f s)).length : Int) = yk y s := by
 have leaf : ∀ s : Int, 0 ≤ s → (∀ x ∈ yieldT (shT g.rules y h f s), 0 ≤ x) ∧ ((yieldT (shT g.rules y h f s)).length : Int) = yk y s := fun s p => by
  rw [shT_leaf f p, yk_pos p]
  refine ⟨fun x hx => ?_, by simp [leafT, yieldT, yieldTs]⟩
  simp [leafT, yieldT, yieldTs] at hx
  omega
 intro j
 induction j with
 | zero =>
  intro _ s hs hr
  refine leaf s ?_
  apply Classical.byContradiction
  intro p
  rcases hs with hs | ⟨h1, h2, h3⟩
  ·exact p hs
  ·have := F.kn _ h1 h2 h3
   unfold rkS at hr
   rw [if_neg p] at hr
   omega
 | succ j ih =>
  intro hjf s hs hr
  by_cases p : 0 ≤ s
  ·exact leaf s p
  obtain ⟨r, r1, r2, r3, r4, r5, r6⟩ := shT_in hg.vr F hs (by omega : rkS h s ≤ f) p
  have hA : nx s < g.nonterms.length ∧ 0 ≤ y.getD (nx s) (-1) ∧ y.getD (nx s) (-1) < most := by
   rcases hs with hs | hs
   ·exact absurd hs p
   ·exact hs
  have kn := F.kn _ hA.1 hA.2.1 hA.2.2
  have kids : ∀ x ∈ r.right, (∀ z ∈ yieldT (shT g.rules y h f x), 0 ≤ z) ∧ ((yieldT (shT g.rules y h f x)).length : Int) = yk y x := fun x hx => by
   obtain ⟨t1, t2, t3⟩ := r5 x hx
   exact ih (by omega) x t1 (by omega)
  have ny : ¬ ((pickD g.rules y h (nx s) : Nat) : Int) = -1 := by omega
  rw [r6, yieldT, if_neg ny, List.append_nil]
  refine ⟨yieldTs_in (fun t ht => ?_), ?_⟩
  ·obtain ⟨x, hx, rfl⟩ := List.mem_map.1 ht
   exact (kids x hx).1
  ·rw [yieldTs_sum (y := y) _ r.right (fun x hx => (kids x hx).2), yk_neg (by omega)]
   have fm : most = 1000000 := rfl
   have pos : 0 < heightD y h r := by omega
   unfold heightD at pos
   split at pos
   ·omega
   rename_i m a hgo
   split at pos
   ·omega
   rename_i ha
   have eA : r.left.toNat = nx s := by omega
   rw [eA] at ha
   have ha' : min a most = y.getD (nx s) (-1) := by simpa using ha
   have := hGo_sum r.right 1 0 m a hgo (Int.le_refl _) (by omega)
   omega
theorem sumGo_le : ∀ (ks : List T) (a : Int), (∀ t ∈ ks, 0 ≤ yk y t.sym ∧ yk y t.sym ≤ (yieldT t).length) → 0 ≤ a → a ≤ most → 0 ≤ sumGo y (ks.map T.sym) a ∧ sumGo y (ks.map T.sym) a ≤ a + (yieldTs ks).length := by
 intro ks
 induction ks with
 | nil => intro a _ h0 _; simp [sumGo, yieldTs, h0]
 | cons t ks ih =>
  intro a hk h0 h1
  obtain ⟨k1, k2⟩ := hk t (by simp)
  have fm : most = 1000000 := rfl
  rw [Q1, sumGo, if_neg (by omega), yieldTs, List.length_append]
  obtain ⟨i1, i2⟩ := ih (min (a + yk y t.sym) most) (fun t ht => hk t (by simp [ht])) (by omega) (by omega)
  exact ⟨i1, by omega⟩
theorem least (hg : GramR g) (F : Fix g.rules g.nonterms.length L y) : ∀ t, nodeB g t = true → (∀ x ∈ yieldT t, 0 ≤ x) → 0 ≤ yk y t.sym ∧ yk y t.sym ≤ (yieldT t).length := by
 intro t
 induction t using T.ind with
 | _ s r ks ih =>
 intro hb hw
 simp only [nodeB,Q0] at hb
 try rw [sym_node]
 by_cases hr : r = -1
 case pos =>
  subst hr
  have hf := hb.1
  simp only [fitsB,if_pos,Q0,decide_eq_true_eq] at hf
  have hk : ks = [] := List.length_eq_zero_iff.1 (by omega)
  subst hk
  have p : 0 ≤ s := hw s (by simp [yieldT, yieldTs])
  rw [yk_pos p]
  simp [yieldT, yieldTs]
 case neg =>
  obtain ⟨r0, x, hx, hsx, hkx⟩ := fitsB_in hb.1 hr
  try rw [sym_node] at hsx
  have hxm : x ∈ g.rules := List.mem_of_getElem? hx
  obtain ⟨v1, v2, v3⟩ := hg.vr x hxm
  have ey : yieldT (.node s r ks) = yieldTs ks := by rw [yieldT, if_neg hr, List.append_nil]
  rw [ey] at hw ⊢
  have wk : ∀ t ∈ ks, ∀ z ∈ yieldT t, 0 ≤ z := by
   intro t ht z hz
   refine hw z ?_
   clear hw hb ih hx hkx ey
   induction ks with
   | nil => cases ht
   | cons a l ihl =>
    rw [yieldTs, List.mem_append]
    rcases List.mem_cons.1 ht with rfl | ht
    ·exact .inl hz
    ·exact .inr (ihl ht)
  obtain ⟨s1, s2⟩ := sumGo_le ks 0 (fun t ht => ih t ht (nodesB_all hb.2 t ht) (wk t ht)) (Int.le_refl _) (by decide)
  have hkx' : ks.map T.sym = x.right := hkx
  rw [hkx'] at s1 s2
  have st := yStable (F.ys x hxm) s1
  have eN : nx s = x.left.toNat := by unfold nx; omega
  rw [yk_neg (by omega), eN]
  exact ⟨st.1, by omega⟩
theorem node_sym (gd : Good g) {t : T} (hb : nodeB g t = true) : isSym g t.sym = true := by
 obtain ⟨s, r, ks⟩ := t
 simp only [nodeB,Q0] at hb
 try rw [sym_node]
 by_cases hr : r = -1
 ·subst hr
  have hf := hb.1
  simp only [fitsB,if_pos,Q0,decide_eq_true_eq] at hf
  exact hf.2
 ·obtain ⟨r0, x, hx, hsx, hkx⟩ := fitsB_in hb.1 hr
  try rw [sym_node] at hsx
  obtain ⟨q1, q2, q3, q4⟩ := gd.rule (List.mem_of_getElem? hx)
  simp only [isSym,Q0,decide_eq_true_eq]
  omega
end
end Go.Proofs.Ytkimloceaihplaa.Ai
