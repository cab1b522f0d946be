/- Trees made of their reductions: the plain part. No program in sight. -/
import Derived.Test.YtkimloceaihplaapTr1
import Derived.Test.YtkimloceaihplaapTr6
import Derived.Test.YtkimloceaihplaapOw1
namespace Go.Proofs.Ytkimloceaihplaa.Ai
open Go
set_option linter.unusedVariables false
set_option linter.unusedSimpArgs false

/-- Moves that are left (the last one first), nodes so far, leaves so far (from right to left). -/
structure MS where
  mv : List Int
  size : Int
  y : List Int

def leafT (s : Int) : T := .node s (-1) []
def zeroT : T := .node 0 0 []

def kidsGo {X : Type} (f : Int → X → (T × Int) × X) : List Int → List T → X → (List T × Int) × X
  | [], acc, x => ((acc, 0), x)
  | s :: l, acc, x => if (f s x).1.2 ≠ 0 then (([], (f s x).1.2), (f s x).2) else kidsGo f l ((f s x).1.1 :: acc) (f s x).2
def kidsOf {X : Type} (g : GramD) (f : Int → X → (T × Int) × X) (k : Nat) (x : X) : (T × Int) × X :=
  match g.rules[k]? with
  | some r => if (kidsGo f r.right.reverse [] x).1.2 ≠ 0 then ((zeroT, (kidsGo f r.right.reverse [] x).1.2), (kidsGo f r.right.reverse [] x).2) else ((.node (-1 - r.left) k (kidsGo f r.right.reverse [] x).1.1, 0), (kidsGo f r.right.reverse [] x).2)
  | none => ((zeroT, 0), x)
def mkStep (g : GramD) (f : Int → MS → (T × Int) × MS) (s : Int) (k : Int) (mv : List Int) (st : MS) : (T × Int) × MS :=
  match g.rules[k.toNat]? with
  | some r =>
    if s ≠ -1 - r.left then ((zeroT, 3), st)
    else if 65536 < st.size + r.right.length then ((zeroT, 4), st)
    else kidsOf g f k.toNat ⟨mv, st.size + r.right.length, st.y⟩
  | none => ((zeroT, 3), st)
def mkNode (g : GramD) : Nat → Int → MS → (T × Int) × MS
  | 0, s, st => ((leafT s, 0), ⟨st.mv, st.size, st.y ++ [s]⟩)
  | n + 1, s, st =>
    if 0 ≤ s then ((leafT s, 0), ⟨st.mv, st.size, st.y ++ [s]⟩) else
    match st.mv with
    | [] => ((leafT s, 0), ⟨st.mv, st.size, st.y ++ [s]⟩)
    | k :: mv => mkStep g (mkNode g n) s k mv st

theorem mkNode_leaf (g : GramD) (n : Nat) (s : Int) (hs : 0 ≤ s) (st : MS) : mkNode g n s st = ((leafT s, 0), ⟨st.mv, st.size, st.y ++ [s]⟩) := by
  cases n with
  | zero => rfl
  | succ n => simp only [mkNode,if_pos hs]

/-! ### What a grammar without fault has -/
theorem rulesErr_mem (g : GramD) : ∀ (l : List RuleD) (a : Int), rulesErr g l a = 0 → ∀ x ∈ l, ∃ a', ruleErr g x a' = 0
  | [], _, _, x, hx => by cases hx
  | y :: l, a, h, x, hx => by
    simp only [rulesErr] at h
    by_cases q : ruleErr g y a = 0
    · rw [if_neg (fun e => e q)] at h
      rcases List.mem_cons.1 hx with rfl | hx
      · exact ⟨a, q⟩
      · exact rulesErr_mem g l _ h x hx
    · rw [if_pos q] at h; exact absurd h q
theorem ruleErr_left {g : GramD} {x : RuleD} {a : Int} (h : ruleErr g x a = 0) : 0 ≤ x.left ∧ x.left < g.nonterms.length ∧ (x.right.length : Int) ≤ 32 ∧ ∀ s ∈ x.right, badSym g s = false := by
  unfold ruleErr at h
  split at h
  · omega
  · rename_i h1
    split at h
    · omega
    · rename_i h2
      refine ⟨by omega, by omega, by omega, fun s hs => ?_⟩
      cases e : badSym g s with
      | false => rfl
      | true => exact absurd (List.any_eq_true.2 ⟨s, hs, e⟩) h2
structure Good (g : GramD) : Prop where
  rules : rulesErr g g.rules 0 = 0
  start : startOk g = true
  nt : (g.nonterms.length : Int) ≤ 512
  tm : (g.terms.length : Int) ≤ 256
theorem good_of {g : GramD} (h : gramErr g = 0) : Good g := by
  unfold gramErr at h
  split at h
  · omega
  rename_i h1
  split at h
  · omega
  split at h
  · omega
  rename_i h3
  split at h
  · rename_i h4; exact absurd h h4
  rename_i h4
  simp only [countsOk,Bool.not_eq_false,Bool.and_eq_true,decide_eq_true_eq] at h1
  exact ⟨by simpa using h4, by simpa using h3, by omega, by omega⟩
theorem Good.rule {g : GramD} (hg : Good g) {x : RuleD} (hx : x ∈ g.rules) : 0 ≤ x.left ∧ x.left < g.nonterms.length ∧ (x.right.length : Int) ≤ 32 ∧ ∀ s ∈ x.right, badSym g s = false := by
  obtain ⟨a, h⟩ := rulesErr_mem g g.rules 0 hg.rules x hx
  exact ruleErr_left h
theorem Good.zero {g : GramD} (hg : Good g) : ∃ x s, g.rules[0]? = some x ∧ x.left = 0 ∧ x.right = [s] ∧ s < -1 := by
  have h := hg.start
  unfold startOk at h
  cases hr : g.rules with
  | nil => rw [hr] at h; simp at h
  | cons x l =>
    rw [hr] at h
    simp only [Bool.and_eq_true,decide_eq_true_eq] at h
    obtain ⟨⟨⟨⟨h1, h2⟩, h3⟩, _⟩, _⟩ := h
    obtain ⟨s, hs⟩ : ∃ s, x.right = [s] := List.length_eq_one_iff.1 (by omega)
    rw [hs] at h3
    exact ⟨x, s, by simp, h1, hs, by simpa using h3⟩
theorem Good.later {g : GramD} (hg : Good g) {k : Nat} {x : RuleD} (hk : 1 ≤ k) (hx : g.rules[k]? = some x) : x.left ≠ 0 := by
  have h := hg.start
  unfold startOk at h
  cases hr : g.rules with
  | nil => rw [hr] at h; simp at h
  | cons y l =>
    rw [hr] at h hx
    simp only [Bool.and_eq_true,decide_eq_true_eq] at h
    obtain ⟨j, rfl⟩ : ∃ j, k = j + 1 := ⟨k - 1, by omega⟩
    have hm : x ∈ l := List.mem_of_getElem? (by simpa using hx)
    simpa using List.all_eq_true.1 h.2 x hm

theorem fitsB_in {g : GramD} {s r : Int} {ks : List T} (h : fitsB g (.node s r ks) = true) (hr : r ≠ -1) : 0 ≤ r ∧ ∃ x, g.rules[r.toNat]? = some x ∧ s = -1 - x.left ∧ ks.map T.sym = x.right := by
  simp only [fitsB,if_neg hr] at h
  split at h
  · simp at h
  · rename_i h1
    refine ⟨by omega, ?_⟩
    cases hx : g.rules[r.toNat]? with
    | none => rw [hx] at h; simp at h
    | some x =>
      rw [hx] at h
      simp only [Bool.and_eq_true,decide_eq_true_eq] at h
      exact ⟨x, rfl, h.1, h.2⟩
theorem nodesB_all {g : GramD} : ∀ {ks : List T}, nodesB g ks = true → ∀ t ∈ ks, nodeB g t = true
  | [], _, t, ht => by cases ht
  | a :: l, h, t, ht => by
    simp only [nodesB,Bool.and_eq_true] at h
    rcases List.mem_cons.1 ht with rfl | ht
    · exact h.1
    · exact nodesB_all h.2 t ht
theorem redsTs_app : ∀ a b : List T, redsTs (a ++ b) = redsTs a ++ redsTs b
  | [], b => rfl
  | t :: a, b => by simp [redsTs, redsTs_app a b]
theorem yieldTs_app : ∀ a b : List T, yieldTs (a ++ b) = yieldTs a ++ yieldTs b
  | [], b => rfl
  | t :: a, b => by simp [yieldTs, yieldTs_app a b]
theorem sizeNs_app : ∀ a b : List T, sizeNs (a ++ b) = sizeNs a + sizeNs b
  | [], b => by simp [sizeNs]
  | t :: a, b => by simp [sizeNs, sizeNs_app a b]; omega

theorem len_sizeNs : ∀ ks : List T, (ks.length : Int) ≤ sizeNs ks
  | [] => by simp [sizeNs]
  | t :: l => by have := sizeN_pos t; have := len_sizeNs l; simp only [sizeNs,List.length_cons]; omega

/-- All leaves are terminals. -/
def WholeT (t : T) : Prop := ∀ s ∈ yieldT t, 0 ≤ s
theorem yieldT_in {ks : List T} {t : T} (h : t ∈ ks) : ∀ s ∈ yieldT t, s ∈ yieldTs ks := by
  induction ks with
  | nil => cases h
  | cons a l ih =>
    intro s hs
    simp only [yieldTs,List.mem_append]
    rcases List.mem_cons.1 h with rfl | h
    · exact .inl hs
    · exact .inr (ih h s hs)
theorem WholeT.kid {s r : Int} {ks : List T} (h : WholeT (.node s r ks)) {t : T} (ht : t ∈ ks) : WholeT t := fun x hx => h x (by
  simp only [yieldT,List.mem_append]
  exact .inl (yieldT_in ht x hx))

theorem sym_kids {ks : List T} {x : RuleD} (h : ks.map T.sym = x.right) {t : T} (ht : t ∈ ks) : t.sym ∈ x.right := h ▸ List.mem_map.2 ⟨t, ht, rfl⟩

/-- The kids, from right to left, are made anew of their reductions. -/
theorem kidsGo_back {g : GramD} {n : Nat} {rest : List Int} : ∀ (ks acc : List T) (sz : Int) (y : List Int),
    (∀ t ∈ ks, ∀ rest sz y, (redsT t).length ≤ n → sz + ((sizeN t : Int) - 1) ≤ 65536 → mkNode g n t.sym ⟨(redsT t).reverse ++ rest, sz, y⟩ = ((t, 0), ⟨rest, sz + ((sizeN t : Int) - 1), y ++ (yieldT t).reverse⟩)) →
    (redsTs ks).length ≤ n → sz + ((sizeNs ks : Int) - ks.length) ≤ 65536 →
    kidsGo (mkNode g n) (ks.map T.sym).reverse acc ⟨(redsTs ks).reverse ++ rest, sz, y⟩ = ((ks ++ acc, 0), ⟨rest, sz + ((sizeNs ks : Int) - ks.length), y ++ (yieldTs ks).reverse⟩) := by
  have pos := len_sizeNs
  intro ks
  induction hl : ks.length generalizing ks with
  | zero =>
    intro acc sz y ih h1 h2
    have : ks = [] := List.length_eq_zero_iff.1 hl
    subst this
    simp [kidsGo, redsTs, sizeNs, yieldTs]
  | succ m im =>
    intro acc sz y ih h1 h2
    have hne : ks ≠ [] := fun e => by subst e; simp at hl
    obtain ⟨l, t, rfl⟩ : ∃ l t, ks = l ++ [t] := ⟨ks.dropLast, ks.getLast hne, (List.dropLast_concat_getLast hne).symm⟩
    have hm : l.length = m := by simpa using hl
    have e1 : redsTs (l ++ [t]) = redsTs l ++ redsT t := by simp [redsTs_app, redsTs]
    have e2 : yieldTs (l ++ [t]) = yieldTs l ++ yieldT t := by simp [yieldTs_app, yieldTs]
    have e3 : sizeNs (l ++ [t]) = sizeNs l + sizeN t := by simp [sizeNs_app, sizeNs]
    rw [e1, List.length_append] at h1
    rw [e3] at h2
    have hp := pos l
    have ht := ih t (by simp) ((redsTs l).reverse ++ rest) sz y (by omega) (by omega)
    have hr := im l hm (t :: acc) (sz + ((sizeN t : Int) - 1)) (y ++ (yieldT t).reverse) (fun u hu => ih u (by simp [hu])) (by omega) (by omega)
    rw [List.map_append, List.reverse_append]
    simp only [List.map_cons,List.map_nil,List.reverse_cons,List.reverse_nil,List.nil_append,List.cons_append,kidsGo]
    rw [e1, e2, e3, List.reverse_append, List.append_assoc, ht]
    simp only [ne_eq,not_true_eq_false,if_false]
    rw [hr]
    simp only [List.reverse_append,List.append_assoc,List.cons_append,List.nil_append]
    congr 2
    omega

theorem mk_back {g : GramD} (hg : Good g) : ∀ t, nodeB g t = true → WholeT t → t.sym ≠ -1 → ∀ (n : Nat) (rest : List Int) (sz : Int) (y : List Int), (redsT t).length ≤ n → sz + ((sizeN t : Int) - 1) ≤ 65536 →
    mkNode g n t.sym ⟨(redsT t).reverse ++ rest, sz, y⟩ = ((t, 0), ⟨rest, sz + ((sizeN t : Int) - 1), y ++ (yieldT t).reverse⟩) := by
  intro t
  induction t using T.ind with
  | _ s r ks ih =>
  intro hb hw hs n rest sz y h1 h2
  simp only [nodeB,Bool.and_eq_true] at hb
  by_cases hr : r = -1
  case pos =>
    subst hr
    have hf := hb.1
    simp only [fitsB,if_pos,Bool.and_eq_true,decide_eq_true_eq] at hf
    have hk : ks = [] := List.length_eq_zero_iff.1 (by omega)
    subst hk
    have h0 : 0 ≤ s := hw s (by simp [yieldT])
    rw [sym_node, mkNode_leaf g n s h0]
    simp [leafT, redsT, redsTs, yieldT, yieldTs, sizeN, sizeNs]
  case neg =>
    obtain ⟨r0, x, hx, hsx, hkx⟩ := fitsB_in hb.1 hr
    have hxm : x ∈ g.rules := List.mem_of_getElem? hx
    obtain ⟨l0, _, _, l1⟩ := hg.rule hxm
    have hrz : r ≠ 0 := by
      intro e
      subst e
      obtain ⟨z, q, hz, hzl, _⟩ := hg.zero
      have : x = z := by simpa [hz] using hx.symm
      subst this
      rw [hzl] at hsx
      exact hs (by rw [sym_node, hsx]; rfl)
    have e1 : redsT (.node s r ks) = redsTs ks ++ [r] := by simp [redsT, hr, hrz]
    have e2 : yieldT (.node s r ks) = yieldTs ks := by simp [yieldT, hr]
    have e3 : sizeN (.node s r ks) = 1 + sizeNs ks := by simp [sizeN]
    rw [e1, List.length_append] at h1
    rw [e3] at h2
    obtain ⟨n, rfl⟩ : ∃ q, n = q + 1 := ⟨n - 1, by simp at h1; omega⟩
    have hlen : ks.length = x.right.length := by rw [← hkx, List.length_map]
    have hneg : ¬ (0 ≤ s) := by omega
    have hgo := kidsGo_back (g := g) (n := n) (rest := rest) ks [] (sz + x.right.length) y (fun t ht rest sz y a b => ih t ht (nodesB_all hb.2 t ht) (hw.kid ht) (by
      have := l1 _ (sym_kids hkx ht)
      intro e
      rw [e] at this
      simp [badSym] at this) n rest sz y a b) (by simp at h1; omega) (by omega)
    rw [hkx] at hgo
    rw [sym_node, e1, e2, e3]
    simp only [List.reverse_append,List.reverse_cons,List.reverse_nil,List.nil_append,List.cons_append,mkNode,if_neg hneg]
    have hsz : ¬ ((65536 : Int) < sz + x.right.length) := by
      have : (ks.length : Int) ≤ sizeNs ks := by
        exact len_sizeNs ks
      omega
    simp only [mkStep,hx,hsx,ne_eq,not_true_eq_false,if_false,if_neg hsz,kidsOf,hgo,List.append_nil]
    congr 2
    · congr 1
      omega
    · omega

/-- A whole tree of the start rule is made anew. -/
theorem of_back {g : GramD} (hg : Good g) {t : T} (hb : nodeB g t = true) (hw : WholeT t) (h0 : t.rule = 0) (hs : sizeN t ≤ 1000) :
    kidsOf g (mkNode g (redsT t).length) 0 ⟨(redsT t).reverse, 2, []⟩ = ((t, 0), ⟨[], sizeN t, (yieldT t).reverse⟩) := by
  obtain ⟨s, r, ks⟩ := t
  rw [rule_node] at h0
  subst h0
  simp only [nodeB,Bool.and_eq_true] at hb
  obtain ⟨_, x, hx, hsx, hkx⟩ := fitsB_in hb.1 (by omega)
  obtain ⟨z, q, hz, hzl, hzr, hq⟩ := hg.zero
  have : x = z := by simpa [hz] using hx.symm
  subst this
  have e1 : redsT (.node s 0 ks) = redsTs ks := by simp [redsT]
  have e2 : yieldT (.node s 0 ks) = yieldTs ks := by simp [yieldT]
  have e3 : sizeN (.node s 0 ks) = 1 + sizeNs ks := by simp [sizeN]
  have hlen : ks.length = 1 := by rw [← List.length_map (f := T.sym), hkx, hzr]; rfl
  have hxm : x ∈ g.rules := List.mem_of_getElem? hz
  obtain ⟨_, _, _, l1⟩ := hg.rule hxm
  rw [e1, e2, e3]
  rw [e3] at hs
  have hgo := kidsGo_back (g := g) (n := (redsTs ks).length) (rest := []) ks [] 2 [] (fun t ht rest sz y a b => mk_back hg t (nodesB_all hb.2 t ht) (hw.kid ht) (by
      have := l1 _ (sym_kids hkx ht)
      intro e
      rw [e] at this
      simp [badSym] at this) _ rest sz y a b) (Nat.le_refl _) (by omega)
  rw [hkx] at hgo
  simp only [List.append_nil,List.nil_append] at hgo
  simp only [kidsOf,hz,hgo,ne_eq,not_true_eq_false,if_false,hsx]
  congr 2
  omega
end Go.Proofs.Ytkimloceaihplaa.Ai
namespace Go.Proofs.Ytkimloceaihplaa.Ai
open Go Go.Proofs
set_option linter.unusedVariables false
set_option linter.unusedSimpArgs false
set_option maxRecDepth 10000
set_option maxHeartbeats 4000000

mutual
/-- Cells that are a tree, places read through. -/
def Enc : T → List AV → Prop
  | .node s r ks, c => ∃ kv, c = [.int .i64 s, .int .i64 r, kv] ∧ ((ks = [] ∧ kv = .nilS) ∨ ∃ e rows, kv = .vsl e rows ∧ Encs ks rows)
def Encs : List T → List (List AV) → Prop
  | [], rows => rows = []
  | t :: ks, rows => ∃ c rest, rows = c :: rest ∧ Enc t c ∧ Encs ks rest
end
mutual
theorem Enc_cT : ∀ t, Enc t (cT t)
  | .node s r ks => ⟨_, rfl, .inr ⟨false, cTs ks, rfl, Encs_cTs ks⟩⟩
theorem Encs_cTs : ∀ ks, Encs ks (cTs ks)
  | [] => rfl
  | t :: ks => ⟨_, _, rfl, Enc_cT t, Encs_cTs ks⟩
end
theorem Encs.len : ∀ {ks : List T} {rows : List (List AV)}, Encs ks rows → rows.length = ks.length
  | [], _, h => by cases h; rfl
  | t :: ks, _, ⟨c, rest, e, _, h⟩ => by subst e; simp [h.len]
theorem Encs.get : ∀ {ks : List T} {rows : List (List AV)}, Encs ks rows → ∀ (j : Nat) (hj : j < ks.length), ∃ c, rows[j]? = some c ∧ Enc ks[j] c
  | [], _, h, j, hj => by simp at hj
  | t :: ks, _, ⟨c, rest, e, h1, h⟩, j, hj => by
    subst e
    cases j with
    | zero => exact ⟨c, rfl, h1⟩
    | succ j => exact h.get j (by simpa using hj)
theorem Enc.cells {t : T} {c : List AV} (h : Enc t c) : ∃ kv, c = [.int .i64 t.sym, .int .i64 t.rule, kv] := by
  obtain ⟨s, r, ks⟩ := t
  obtain ⟨kv, h, _⟩ := h
  exact ⟨kv, h⟩
theorem Enc.length {t : T} {c : List AV} (h : Enc t c) : c.length = 3 := by obtain ⟨kv, rfl⟩ := h.cells; rfl
theorem Enc.open {s r : Int} {ks : List T} {c : List AV} (hc : Enc (.node s r ks) c) : ∃ kv, c = [.int .i64 s, .int .i64 r, kv] ∧ (∀ h : AHeap, alen h .slice kv = some (.int .i64 ks.length)) ∧
    (∀ (j : Nat) (hj : j < ks.length), ∃ cj, Enc ks[j] cj ∧ ∀ h : AHeap, aindexAddr h 3 kv (.int .i64 j) = some (.vptr cj 0)) ∧ cellsOf kv = [kv] ∧ cellOk kv = true ∧ ∀ (h : AHeap) (d : Nat), freeze h (d + 1) kv = some (kv, true) := by
  obtain ⟨kv, rfl, hk⟩ := hc
  rcases hk with ⟨rfl, rfl⟩ | ⟨e, rows, rfl, hk⟩
  · exact ⟨_, rfl, fun h => rfl, fun j hj => by simp at hj, rfl, rfl, fun h d => rfl⟩
  · refine ⟨_, rfl, fun h => by simp [alen, hk.len], fun j hj => ?_, rfl, rfl, fun h d => rfl⟩
    obtain ⟨c, h1, h2⟩ := hk.get j hj
    exact ⟨c, h2, fun h => by simp [aindexAddr, h1, h2.length]⟩
theorem fz_enc {t : T} {c : List AV} (hc : Enc t c) (h : AHeap) : freeze h 1000 (.agg c) = some (.agg c, true) := by
  obtain ⟨s, r, ks⟩ := t
  obtain ⟨kv, rfl, _, _, _, _, hf⟩ := hc.open
  have e : freeze h 1000 (.agg [.int .i64 s, .int .i64 r, kv]) = (mapO (freeze h 999) [.int .i64 s, .int .i64 r, kv]).map fun l => (.agg (l.map (·.1)), l.all (·.2)) := rfl
  rw [e, mapO_3 (rfl : freeze h 999 (.int .i64 s) = some (.int .i64 s, true)) (rfl : freeze h 999 (.int .i64 r) = some (.int .i64 r, true)) (hf h 998)]
  rfl

mutual
def sameB : T → T → Bool
  | .node s r ks, .node s' r' ks' => decide (s = s') && (decide (r = r') && (decide ((ks.length : Int) = ks'.length) && sameBs ks ks'))
def sameBs : List T → List T → Bool
  | a :: x, b :: y => sameB a b && sameBs x y
  | _, _ => true
end
mutual
theorem sameB_self : ∀ t, sameB t t = true
  | .node s r ks => by simp [sameB, sameBs_self ks]
theorem sameBs_self : ∀ ks, sameBs ks ks = true
  | [] => rfl
  | t :: ks => by simp [sameBs, sameB_self t, sameBs_self ks]
end

theorem r_Same : ∀ a, okT a → ∀ ca b cb, Enc a ca → Enc b cb → ∀ H, lim G0.cfg (.func 24) [.agg ca, .agg cb] H = some (.bool (sameB a b), H) := by
  intro a
  induction a using T.ind with
  | _ s r ks ih =>
  intro hok ca b cb ha hb H
  obtain ⟨s', r', ks'⟩ := b
  obtain ⟨hs, hr, hlen, hoks⟩ := id hok
  rw [maxLen_eq] at hlen
  refine lim_flat rfl rfl P_r20_Same (ks.length + 1) (fun h => fz_2 (fz_enc ha h) (fz_enc hb h)) ?_ (fun _ => rfl) H
  obtain ⟨kv, rfl, la, xa, _⟩ := ha.open
  obtain ⟨kw, rfl, lb, xb, _⟩ := hb.open
  have loop : ∀ (d i m : Nat), ks.length = i + d → d < m → ks.length = ks'.length →
      loopN (evalCode (lim G0.cfg) (ks.length + 1) B_r20_Same_0) m ⟨(.junk::.junk :: .ptr 0 0 0 0 :: .ptr 1 0 0 0 :: .junk :: .int .i64 i :: .junk::.junk::.junk::.junk::.junk::.junk::.junk::.junk::.junk::.junk::.junk::.junk::.junk::.junk::.junk::.junk::.junk::.junk::.junk::.junk::.junk::.junk::.junk::.junk::.junk::.junk::.junk::.junk::.junk::.junk::.junk::.junk::.junk::.junk::.junk::.junk::.junk::.junk::.junk::.junk :: []), [.arr 0 3 true [[.int .i64 s, .int .i64 r, kv]], .arr 0 3 true [[.int .i64 s', .int .i64 r', kw]]]⟩ =
        (bif sameBs (ks.drop i) (ks'.drop i) then some (.exit 0, ⟨(.junk::.junk::.junk::.junk::.junk::.junk::.junk::.junk::.junk::.junk::.junk::.junk::.junk::.junk::.junk::.junk::.junk::.junk::.junk::.junk::.junk::.junk::.junk::.junk::.junk::.junk::.junk::.junk::.junk::.junk::.junk::.junk::.junk::.junk::.junk::.junk::.junk::.junk::.junk::.junk::.junk::.junk::.junk::.junk::.junk::.junk :: []), [.arr 0 3 true [[.int .i64 s, .int .i64 r, kv]], .arr 0 3 true [[.int .i64 s', .int .i64 r', kw]]]⟩)
          else some (.ret, ⟨(.junk::.junk::.junk::.junk :: .bool false::.junk::.junk::.junk::.junk::.junk::.junk::.junk::.junk::.junk::.junk::.junk::.junk::.junk::.junk::.junk::.junk::.junk::.junk::.junk::.junk::.junk::.junk::.junk::.junk::.junk::.junk::.junk::.junk::.junk::.junk::.junk::.junk::.junk::.junk::.junk::.junk::.junk::.junk::.junk::.junk::.junk :: []), [.arr 0 3 true [[.int .i64 s, .int .i64 r, kv]], .arr 0 3 true [[.int .i64 s', .int .i64 r', kw]]]⟩)) := by
    intro d
    induction d with
    | zero =>
      intro i m h1 h3 hl
      obtain ⟨m, rfl⟩ : ∃ q, m = q + 1 := ⟨m - 1, by omega⟩
      have e1 : ks.drop i = [] := List.drop_eq_nil_iff.2 (by omega)
      have h5 : ¬ ((i : Int) < ks.length) := by omega
      rw [e1]
      simp only [loop_e,EB_r20_Same_0,Zab,Zac,Zad,Zag,Zah,Zaj,Zak,Zal,Zas,Zav,Zay,Zbi,Zbk,Zbo,Zbq,Zby,Zcg,Zcu,Zcw,Zdb,Zdc,List.set_cons_zero,List.set_cons_succ,List.getD_cons_zero,List.getD_cons_succ,Option.bind_some,Zdg,Zdw,Zdy,decide_false,List.getElem?_cons_zero,List.length_cons,List.length_nil,if_true,Nat.reduceAdd,Nat.reduceLeDiff,eq_self,cond_true,aload,acells,getArr,part,List.drop_zero,List.drop_succ_cons,List.take_succ_cons,List.take_nil,List.set_cons_zero,la,h5,sameBs]
    | succ d ihd =>
      intro i m h1 h3 hl
      obtain ⟨m, rfl⟩ : ∃ q, m = q + 1 := ⟨m - 1, by omega⟩
      have h5 : i < ks.length := by omega
      have h5' : (i : Int) < ks.length := by omega
      have h6 : i < ks'.length := by omega
      have e1 : ks.drop i = ks[i] :: ks.drop (i + 1) := List.drop_eq_getElem_cons h5
      have e2 : ks'.drop i = ks'[i] :: ks'.drop (i + 1) := List.drop_eq_getElem_cons h6
      have hw := w64s (n := i) (by omega)
      have hmem : ks[i] ∈ ks := List.getElem_mem h5
      obtain ⟨ci, ei, xi⟩ := xa i h5
      obtain ⟨cj, ej, xj⟩ := xb i h6
      have hc := ih ks[i] hmem (okTs_mem hoks hmem) ci _ cj ei ej
      obtain ⟨ki, rfl⟩ := ei.cells
      obtain ⟨kj, rfl⟩ := ej.cells
      rw [e1, e2]
      simp only [sameBs]
      cases q : sameB ks[i] ks'[i]
      case false =>
        rw [q] at hc
        simp only [loop_e,EB_r20_Same_0,Zaa,Zab,Zac,Zad,Zae,Zag,Zai,Zaj,Zak,Zam,Zao,Zar,Zaw,Zay,Zaz,Zbi,Zbk,Zbo,Zbq,Zbr,Zby,Zcb,Zcg,Zco,Zcp,Zcu,Zcv,Zcw,Zcy,Zcz,Zda,Zdb,Zdc,List.set_cons_zero,List.set_cons_succ,List.getD_cons_zero,List.getD_cons_succ,Option.bind_some,Zdg,Zdq,Zdw,Zdy,Zdz,decide_true,Bool.not_false,List.getElem?_cons_zero,List.getElem?_cons_succ,List.length_cons,List.length_nil,if_true,Nat.reduceAdd,Nat.reduceLeDiff,eq_self,cond_false,aload,acells,getArr,part,List.drop_zero,List.drop_succ_cons,List.take_succ_cons,List.take_nil,List.cons_append,List.nil_append,List.set_cons_zero,la,h5',xi,xj,hc,Bool.false_and]
      case true =>
        rw [q] at hc
        have e := ihd (i + 1) m (by omega) (by omega) hl
        rw [Bool.true_and, ← e]
        simp only [loop_e,EB_r20_Same_0,Zaa,Zab,Zac,Zad,Zae,Zag,Zaj,Zak,Zan,Zar,Zas,Zau,Zay,Zaz,Zbi,Zbk,Zbo,Zbq,Zbr,Zby,Zcb,Zcg,Zco,Zcp,Zcu,Zcv,Zcw,Zcy,Zcz,Zda,Zdb,Zdc,List.set_cons_zero,List.set_cons_succ,List.getD_cons_zero,List.getD_cons_succ,Option.bind_some,Zdd,Zdg,Zdq,Zdw,Zdy,Zdz,decide_true,Bool.not_true,List.getElem?_cons_zero,List.getElem?_cons_succ,List.length_cons,List.length_nil,if_true,Nat.reduceAdd,Nat.reduceLeDiff,eq_self,aload,acells,getArr,part,List.drop_zero,List.drop_succ_cons,List.take_succ_cons,List.take_nil,List.cons_append,List.nil_append,List.set_cons_zero,la,h5',xi,xj,hc,hw]
  rw [R_r20_Same]
  by_cases q1 : s = s'
  case neg => simp only [Zab,Zac,Zad,Zai,Zaj,Zak,Zam,Zar,Zay,Zaz,Zbd,Zbg,Zbi,Zbj,Zbk,Zbl,Zbn,Zbo,Zbq,Zby,Zcr,Zct,Zcu,Zcv,Zcw,List.set_cons_zero,List.set_cons_succ,List.getD_cons_zero,List.getD_cons_succ,Option.bind_some,Option.map_some,Zdl,Zdw,Zdy,Zea,decide_false,Bool.not_false,List.getElem?_cons_zero,List.getElem?_cons_succ,List.length_cons,List.length_nil,if_true,Nat.reduceAdd,Nat.reduceSub,Nat.reduceLeDiff,eq_self,true_and,List.length_cons,List.length_nil,List.replicate_succ,List.replicate_zero,List.cons_append,List.nil_append,aload,acells,getArr,part,List.drop_zero,List.take_succ_cons,List.take_zero,List.cons_append,List.nil_append,List.set_cons_zero,q1,sameB,resAll,resVals,resVal,Option.some.injEq,Prod.mk.injEq,true_and,Bool.false_and,exists_eq']
  case pos =>
  by_cases q2 : r = r'
  case neg => simp only [Zab,Zac,Zad,Zai,Zaj,Zak,Zam,Zar,Zay,Zaz,Zbc,Zbd,Zbg,Zbh,Zbi,Zbj,Zbk,Zbl,Zbn,Zbo,Zbq,Zby,Zcr,Zct,Zcu,Zcv,Zcw,List.set_cons_zero,List.set_cons_succ,List.getD_cons_zero,List.getD_cons_succ,Option.bind_some,Option.map_some,Zdl,Zdw,Zdy,Zea,decide_true,decide_false,Bool.not_true,Bool.not_false,List.getElem?_cons_zero,List.getElem?_cons_succ,List.length_cons,List.length_nil,if_true,Nat.reduceAdd,Nat.reduceSub,Nat.reduceLeDiff,eq_self,true_and,List.length_cons,List.length_nil,List.replicate_succ,List.replicate_zero,List.cons_append,List.nil_append,aload,acells,getArr,part,List.drop_zero,List.drop_succ_cons,List.take_succ_cons,List.take_zero,List.cons_append,List.nil_append,List.set_cons_zero,q1,q2,sameB,resAll,resVals,resVal,Option.some.injEq,Prod.mk.injEq,true_and,Bool.false_and,Bool.and_false,exists_eq']
  case pos =>
  by_cases q3 : (ks.length : Int) = ks'.length
  case neg => simp only [Zab,Zac,Zad,Zai,Zaj,Zak,Zam,Zar,Zay,Zaz,Zbc,Zbh,Zbi,Zbj,Zbk,Zbl,Zbn,Zbo,Zbq,Zby,Zcg,Zcr,Zct,Zcu,Zcv,Zcw,List.set_cons_zero,List.set_cons_succ,List.getD_cons_zero,List.getD_cons_succ,Option.bind_some,Option.map_some,Zdl,Zdw,Zdy,Zea,decide_true,decide_false,Bool.not_true,Bool.not_false,List.getElem?_cons_zero,List.getElem?_cons_succ,List.length_cons,List.length_nil,if_true,Nat.reduceAdd,Nat.reduceSub,Nat.reduceLeDiff,eq_self,true_and,List.length_cons,List.length_nil,List.replicate_succ,List.replicate_zero,List.cons_append,List.nil_append,aload,acells,getArr,part,List.drop_zero,List.drop_succ_cons,List.take_succ_cons,List.take_zero,List.take_nil,List.cons_append,List.nil_append,List.set_cons_zero,q1,q2,la,lb,q3,sameB,resAll,resVals,resVal,Option.some.injEq,Prod.mk.injEq,true_and,Bool.false_and,Bool.and_false,exists_eq']
  case pos =>
  have e := loop ks.length 0 (ks.length + 1) (by omega) (by omega) (by omega)
  rw [List.drop_zero, List.drop_zero, z0] at e
  subst q1 q2
  cases q : sameBs ks ks'
  all_goals
    rw [q] at e
    simp only [cond_true,cond_false] at e
    simp only [Zaa,Zab,Zac,Zad,Zae,Zaf,Zag,Zai,Zaj,Zak,Zam,Zao,Zap,Zas,Zat,Zay,Zaz,Zbc,Zbh,Zbi,Zbj,Zbk,Zbl,Zbn,Zbo,Zbq,Zby,Zcg,Zcr,Zct,Zcu,Zcv,Zcw,Zda,Zdb,Zdc,List.set_cons_zero,List.set_cons_succ,List.getD_cons_zero,List.getD_cons_succ,Option.bind_some,Option.map_some,Zdl,Zdw,Zdy,Zea,decide_true,Bool.not_true,List.getElem?_cons_zero,List.getElem?_cons_succ,List.length_cons,List.length_nil,if_true,Nat.reduceAdd,Nat.reduceSub,Nat.reduceLeDiff,eq_self,true_and,List.length_cons,List.length_nil,List.replicate_succ,List.replicate_zero,List.cons_append,List.nil_append,aload,acells,getArr,part,Bool.and_self,List.drop_zero,List.drop_succ_cons,List.take_succ_cons,List.take_zero,List.take_nil,List.cons_append,List.nil_append,List.set_cons_zero,la,lb,q3,e,sameB,q,resAll,resVals,resVal,Option.some.injEq,Prod.mk.injEq,true_and,Bool.and_false,exists_eq']

def wholeB (t : T) : Bool := (yieldT t).all fun s => decide (0 ≤ s)
theorem r_Whole (t : T) (ht : okT t) (hs : sizeN t ≤ 1000000) (H : AHeap) : lim G0.cfg (.func 30) [.agg (cT t)] H = some (.bool (wholeB t), H) := by
  refine lim_flat rfl rfl P_r20_Whole ((yieldT t).length + 1) (fun h => fz_1 (fz_tree t h)) ?_ (fun _ => rfl) H
  have c1 := r_Yield t ht hs
  have hyl := yieldT_len t
  have hct := cT_len t
  have htk : List.take 3 (cT t) = cT t := List.take_of_length_le (Nat.le_of_eq hct)
  unfold wholeB
  generalize yieldT t = ys at *
  have ll := fun h => len_encL h ys
  have loop : ∀ (d i m : Nat) (h : AHeap), ys.length = i + d → d < m →
      loopN (evalCode (lim G0.cfg) (ys.length + 1) B_r20_Whole_0) m ⟨[.junk,.junk,.junk, encL ys, .int .i64 i, .junk,.junk,.junk,.junk,.junk,.junk,.junk,.junk,.junk,.junk,.junk,.junk,.junk], h⟩ =
        (bif (ys.drop i).all (fun s => decide (0 ≤ s)) then some (.exit 0, ⟨[.junk,.junk,.junk,.junk,.junk,.junk,.junk,.junk,.junk,.junk,.junk,.junk,.junk,.junk,.junk,.junk,.junk,.junk], h⟩) else some (.ret, ⟨[.junk,.junk, .bool false, .junk,.junk,.junk,.junk,.junk,.junk,.junk,.junk,.junk,.junk,.junk,.junk,.junk,.junk,.junk], h⟩)) := by
    intro d
    induction d with
    | zero =>
      intro i m h h1 h3
      obtain ⟨m, rfl⟩ : ∃ q, m = q + 1 := ⟨m - 1, by omega⟩
      have e1 : ys.drop i = [] := List.drop_eq_nil_iff.2 (by omega)
      have h5 : ¬ ((i : Int) < ys.length) := by omega
      rw [e1]
      simp only [loop_e,EB_r20_Whole_0,Zab,Zac,Zad,Zag,Zah,Zaj,Zak,Zal,Zas,Zav,Zay,Zbi,Zbk,Zbq,Zcg,Zcu,Zcw,Zdb,Zdc,List.set_cons_zero,List.set_cons_succ,List.getD_cons_zero,List.getD_cons_succ,Zdg,decide_false,eq_self,cond_true,List.all_nil,List.set_cons_zero,ll,h5,List.all_nil]
    | succ d ihd =>
      intro i m h h1 h3
      obtain ⟨m, rfl⟩ : ∃ q, m = q + 1 := ⟨m - 1, by omega⟩
      have h5 : i < ys.length := by omega
      have h5' : (i : Int) < ys.length := by omega
      have e1 : ys.drop i = ys[i] :: ys.drop (i + 1) := List.drop_eq_getElem_cons h5
      have hw := w64s (n := i) (by omega)
      have xx := fun h => ix_encL h ys .i64 i h5
      rw [e1]
      by_cases q : ys[i] < 0
      case pos =>
        have q' : ¬ (0 ≤ ys[i]) := by omega
        simp only [loop_e,EB_r20_Whole_0,Zaa,Zab,Zac,Zad,Zae,Zag,Zai,Zaj,Zak,Zam,Zao,Zar,Zaw,Zay,Zbi,Zbk,Zbo,Zbq,Zcb,Zcg,Zcu,Zcv,Zcw,Zda,Zdb,Zdc,List.set_cons_zero,List.set_cons_succ,List.getD_cons_zero,List.getD_cons_succ,Option.bind_some,Zdg,Zdy,decide_true,decide_false,List.length_cons,List.length_nil,if_true,Nat.reduceAdd,Nat.reduceLeDiff,eq_self,cond_false,aload,acells,part,eI,List.all_cons,List.drop_zero,List.take_succ_cons,List.take_nil,List.set_cons_zero,ll,h5',xx,q,q',List.all_cons,Bool.false_and]
      case neg =>
        have q' : 0 ≤ ys[i] := by omega
        have e := ihd (i + 1) m h (by omega) (by omega)
        simp only [List.all_cons,q',decide_true,Bool.true_and]
        rw [← e]
        simp only [loop_e,EB_r20_Whole_0,Zaa,Zab,Zac,Zad,Zae,Zag,Zaj,Zak,Zan,Zar,Zas,Zau,Zay,Zbi,Zbk,Zbo,Zbq,Zcb,Zcg,Zcu,Zcv,Zcw,Zda,Zdb,Zdc,List.set_cons_zero,List.set_cons_succ,List.getD_cons_zero,List.getD_cons_succ,Option.bind_some,Zdd,Zdg,Zdy,decide_true,decide_false,List.length_cons,List.length_nil,if_true,Nat.reduceAdd,Nat.reduceLeDiff,eq_self,aload,acells,part,eI,List.drop_zero,List.take_succ_cons,List.take_nil,List.set_cons_zero,ll,h5',xx,q,hw]
  have e := fun h => loop ys.length 0 (ys.length + 1) h (by omega) (by omega)
  simp only [List.drop_zero,z0] at e
  rw [R_r20_Whole]
  cases q : ys.all (fun s => decide (0 ≤ s))
  all_goals
    rw [q] at e
    simp only [cond_true,cond_false] at e
    simp only [Zab,Zac,Zae,Zaf,Zag,Zai,Zaj,Zak,Zam,Zao,Zap,Zat,Zay,Zaz,Zbi,Zbk,Zbn,Zbo,Zco,Zcp,Zcr,Zct,Zcu,Zcv,Zcw,Zcy,Zcz,Zda,Zdb,Zdc,List.set_cons_zero,List.set_cons_succ,List.getD_cons_zero,List.getD_cons_succ,Option.bind_some,Option.map_some,Zdz,Zea,List.getElem?_cons_zero,List.length_cons,List.length_nil,if_true,Nat.reduceAdd,Nat.reduceSub,Nat.reduceLeDiff,eq_self,true_and,List.length_cons,List.length_nil,List.replicate_succ,List.replicate_zero,List.cons_append,List.nil_append,aload,acells,getArr,part,List.drop_zero,List.cons_append,List.nil_append,List.set_cons_zero,hct,htk,c1,e,resAll,resVals,resVal,Option.some.injEq,Prod.mk.injEq,true_and,exists_eq']
end Go.Proofs.Ytkimloceaihplaa.Ai
namespace Go.Proofs.Ytkimloceaihplaa.Ai
open Go Go.Proofs
set_option linter.unusedVariables false
set_option linter.unusedSimpArgs false
set_option maxRecDepth 10000
set_option maxHeartbeats 4000000

/-- A row of leaves, or the maker itself. -/
def Soft (o : AObj) : Prop := (∃ v l, o = .arr v 1 false l) ∨ ∃ c, o = .arr 0 9 true c
def Keep (h h' : AHeap) : Prop := ∀ (j : Nat) (o : AObj), h[j]? = some o → ¬ Soft o → h'[j]? = some o
theorem Keep.refl (h : AHeap) : Keep h h := fun _ _ e _ => e
theorem Keep.trans {a b c : AHeap} (h : Keep a b) (k : Keep b c) : Keep a c := fun j o e n => k j o (h j o e n) n
theorem Keep.app (h l : AHeap) : Keep h (h ++ l) := fun j o e _ => get_app e l
theorem Keep.setN {h h' : AHeap} (k : Keep h h') {j : Nat} (hj : h.length ≤ j) (o : AObj) : Keep h (h'.set j o) := fun i q e n => by
  have : i < h.length := get_len e
  exact get_set_ne (k i q e n) (by omega)
theorem Keep.setS {h h' : AHeap} (k : Keep h h') {j : Nat} {q : AObj} (hj : h'[j]? = some q) (hs : Soft q) (o : AObj) : Keep h (h'.set j o) := fun i p e n => by
  have e' := k i p e n
  by_cases hij : j = i
  · subst hij; rw [hj] at e'; cases e'; exact absurd hs n
  · exact get_set_ne e' hij
theorem soft3 {b : Bool} {c : List (List AV)} : ¬ Soft (.arr 0 3 b c) := fun h => by rcases h with ⟨_, _, e⟩ | ⟨_, e⟩ <;> cases e
theorem soft5 {b : Bool} {c : List (List AV)} : ¬ Soft (.arr 0 5 b c) := fun h => by rcases h with ⟨_, _, e⟩ | ⟨_, e⟩ <;> cases e
theorem soft1 {c : List (List AV)} : ¬ Soft (.arr 0 1 true c) := fun h => by rcases h with ⟨_, _, e⟩ | ⟨_, e⟩ <;> cases e
theorem KeepA.keep {h h' : AHeap} (k : KeepA h h') : Keep h h' := fun j o e n => k j o e fun v l ho => n (.inl ⟨v, l, ho⟩)

mutual
/-- Cells that are a tree in memory, in rows from lo on. -/
def RepT (h : AHeap) : Nat → T → List AV → Prop
  | lo, .node s r ks, c => ∃ kv, c = [.int .i64 s, .int .i64 r, kv] ∧ ((ks = [] ∧ kv = .nilS) ∨ ∃ i rows, lo ≤ i ∧ kv = .hsl i 0 0 ks.length none ∧ h[i]? = some (.arr 0 3 true rows) ∧ RepTs h (i + 1) ks rows)
def RepTs (h : AHeap) : Nat → List T → List (List AV) → Prop
  | _, [], rows => rows = []
  | lo, t :: ks, rows => ∃ c rest, rows = c :: rest ∧ RepT h lo t c ∧ RepTs h lo ks rest
end
mutual
theorem RepT.mono {h h' : AHeap} : ∀ (t : T) {lo lo' : Nat} {c : List AV}, RepT h lo t c → lo' ≤ lo → (∀ j r, lo ≤ j → h[j]? = some (.arr 0 3 true r) → h'[j]? = some (.arr 0 3 true r)) → RepT h' lo' t c
  | .node s r ks, lo, lo', c, hr, hl, hk => by
    obtain ⟨kv, h1, h2⟩ := hr
    refine ⟨kv, h1, ?_⟩
    rcases h2 with h2 | ⟨i, rows, g1, g2, g3, g4⟩
    · exact .inl h2
    · exact .inr ⟨i, rows, by omega, g2, hk i rows g1 g3, RepTs.mono ks g4 (Nat.le_refl _) fun j r hj => hk j r (by omega)⟩
theorem RepTs.mono {h h' : AHeap} : ∀ (ks : List T) {lo lo' : Nat} {rows : List (List AV)}, RepTs h lo ks rows → lo' ≤ lo → (∀ j r, lo ≤ j → h[j]? = some (.arr 0 3 true r) → h'[j]? = some (.arr 0 3 true r)) → RepTs h' lo' ks rows
  | [], lo, lo', rows, hr, hl, hk => hr
  | t :: ks, lo, lo', rows, hr, hl, hk => by
    obtain ⟨c, rest, h1, h2, h3⟩ := hr
    exact ⟨c, rest, h1, RepT.mono t h2 hl hk, RepTs.mono ks h3 hl hk⟩
end
theorem RepT.keep {h h' : AHeap} {t : T} {lo lo' : Nat} {c : List AV} (hr : RepT h lo t c) (hl : lo' ≤ lo) (k : Keep h h') : RepT h' lo' t c := RepT.mono t hr hl fun j r _ e => k j _ e soft3
theorem RepTs.keep {h h' : AHeap} {ks : List T} {lo lo' : Nat} {rows : List (List AV)} (hr : RepTs h lo ks rows) (hl : lo' ≤ lo) (k : Keep h h') : RepTs h' lo' ks rows := RepTs.mono ks hr hl fun j r _ e => k j _ e soft3
theorem RepTs.setB {h : AHeap} {ks : List T} {lo : Nat} {rows : List (List AV)} (hr : RepTs h lo ks rows) {j : Nat} (hj : j < lo) (o : AObj) : RepTs (h.set j o) lo ks rows := RepTs.mono ks hr (Nat.le_refl _) fun i r hi e => get_set_ne e (by omega)
theorem RepT.setB {h : AHeap} {t : T} {lo : Nat} {c : List AV} (hr : RepT h lo t c) {j : Nat} (hj : j < lo) (o : AObj) : RepT (h.set j o) lo t c := RepT.mono t hr (Nat.le_refl _) fun i r hi e => get_set_ne e (by omega)
theorem RepTs.len {h : AHeap} : ∀ {ks : List T} {lo : Nat} {rows : List (List AV)}, RepTs h lo ks rows → rows.length = ks.length
  | [], _, _, e => by cases e; rfl
  | t :: ks, _, _, ⟨c, rest, e, _, g⟩ => by subst e; simp [g.len]

/-- Cells of a tree, whatever stands behind. -/
def Cel (c : List AV) : Prop := ∃ a b kv, c = [.int .i64 a, .int .i64 b, kv] ∧ (kv = .nilS ∨ ∃ i n, kv = .hsl i 0 0 n none)
theorem RepT.cel {h : AHeap} {lo : Nat} {t : T} {c : List AV} (hr : RepT h lo t c) : Cel c := by
  obtain ⟨s, r, ks⟩ := t
  obtain ⟨kv, h1, h2⟩ := hr
  refine ⟨s, r, kv, h1, ?_⟩
  rcases h2 with ⟨_, h2⟩ | ⟨i, rows, _, h2, _⟩
  · exact .inl h2
  · exact .inr ⟨_, _, h2⟩
theorem cel0 : Cel [.int .i64 0, .int .i64 0, .nilS] := ⟨0, 0, .nilS, rfl, .inl rfl⟩

/-- What makes the kids. -/
structure KOne {X : Type} (g : Nat) (first caps : List AV) (Inv : Nat → X → AHeap → Prop) (f : Int → X → (T × Int) × X) : Prop where
  app : ∀ {p x h}, Inv p x h → ∀ l, Inv p x (h ++ l)
  set : ∀ {p x h}, Inv p x h → ∀ {j : Nat} {c}, h[j]? = some (.arr 0 3 true c) → ∀ c', Inv p x (h.set j (.arr 0 3 true c'))
  run : ∀ p s x h, inI64 s → Inv (p + 1) x h → ∃ c h', lim G0.cfg (.func g) (first ++ [.int .i64 s] ++ caps) h = some (.tup [.agg c, .int .i64 (f s x).1.2], h') ∧ Cel c ∧ Keep h h' ∧ ((f s x).1.2 = 0 → RepT h' h.length (f s x).1.1 c ∧ Inv p (f s x).2 h')

abbrev eMk (g : GramD) (mv lf sz yv : AV) : List AV := [.vsl false (eSs g.terms), .vsl false (eSs g.nonterms), .vsl false (eIs g.origins), .vsl false (g.rules.map eRule), .vsl false (g.levels.map eLevel), mv, lf, sz, yv]
theorem an_p (h : AHeap) (i v e o : Nat) : anil h (.ptr i v e o) = some (.ptr i v e o) := rfl
theorem hap_get0 {α : Type} (h l : List α) : (h ++ l)[h.length]? = l[0]? := by rw [List.getElem?_append_right (Nat.le_refl _), Nat.sub_self]
theorem hap_get {α : Type} (h l : List α) (k : Nat) : (h ++ l)[h.length + k]? = l[k]? := by rw [List.getElem?_append_right (by omega), Nat.add_sub_cancel_left]
theorem hap_set0 {α : Type} (h l : List α) (x : α) : (h ++ l).set h.length x = h ++ l.set 0 x := by rw [List.set_append_right _ _ (Nat.le_refl _), Nat.sub_self]
theorem hap_set {α : Type} (h l : List α) (k : Nat) (x : α) : (h ++ l).set (h.length + k) x = h ++ l.set k x := by rw [List.set_append_right _ _ (by omega), Nat.add_sub_cancel_left]
theorem amk_n {h : AHeap} {k k' : IntKind} {n : Nat} (hn : n ≤ 1000) (sz bytes : Nat) (z : List AV) (hb : bytes ≤ 1000000) : amk h sz bytes z (.int k n) (.int k' n) = some (.hsl h.length 0 0 n none, h ++ [.arr 0 sz true (List.replicate n z)]) := by
  have h1 : (0 : Int) ≤ n ∧ (n : Int) ≤ n ∧ (n : Int) * (bytes + 1) ≤ 70368744177664 := by
    refine ⟨by omega, by omega, ?_⟩
    have : (n : Int) * (bytes + 1) ≤ 1000 * 1000001 := Int.mul_le_mul (by omega) (by omega) (by omega) (by omega)
    omega
  simp only [amk,if_pos h1,Int.toNat_natCast]
theorem ix_hsl {h : AHeap} {i n : Nat} {sz : Nat} {x : Bool} {rows : List (List AV)} {c : Option Nat} (hi : h[i]? = some (.arr 0 sz x rows)) {k : IntKind} {j : Nat} (hj : j < n) : aindexAddr h sz (.hsl i 0 0 n c) (.int k j) = some (.ptr i 0 j 0) := by
  have : (0 : Int) ≤ j ∧ (j : Int) < n := by omega
  simp [aindexAddr, getArr, hi, hj]

theorem kidsGo_len {X : Type} (f : Int → X → (T × Int) × X) : ∀ (l : List Int) (acc : List T) (x : X), (kidsGo f l acc x).1.2 = 0 → (kidsGo f l acc x).1.1.length = l.length + acc.length
  | [], acc, x, _ => by simp [kidsGo]
  | s :: l, acc, x, h => by
    simp only [kidsGo] at h ⊢
    by_cases q : (f s x).1.2 = 0
    · rw [if_neg (fun e => e q)] at h ⊢
      rw [kidsGo_len f l _ _ h]; simp; omega
    · rw [if_pos q] at h; exact absurd h q

theorem f_kids {X : Type} {F : Nat} {first caps : List AV} {Inv : Nat → X → AHeap → Prop} {f : Int → X → (T × Int) × X} (hy : KOne F first caps Inv f) (g : GramD) (b : Nat) (mv lf sz yv : AV) (kn : Nat) (r : RuleD) (hr : g.rules[kn]? = some r) (hkn : kn < 9223372036854775807) (hn : r.right.length ≤ 1000) (hs : ∀ s ∈ r.right, inI64 s) (hl0 : 0 ≤ r.left ∧ r.left < 9223372036854775807)
    (p : Nat) (x : X) (h : AHeap) (hI : Inv (p + r.right.length) x h) (hb : h[b]? = some (.arr 0 9 true [eMk g mv lf sz yv])) :
    ∃ c h', lim G0.cfg (.func 45) [.ptr b 0 0 0, .int .i64 kn, .fn (.func F) first caps] h = some (.tup [.agg c, .int .i64 (kidsOf g f kn x).1.2], h') ∧ Cel c ∧ Keep h h' ∧ ((kidsOf g f kn x).1.2 = 0 → RepT h' h.length (kidsOf g f kn x).1.1 c ∧ Inv p (kidsOf g f kn x).2 h') := by
  obtain ⟨b0, hb0⟩ : ∃ b0, b0 = h.length := ⟨_, rfl⟩
  obtain ⟨o6, ho6⟩ : ∃ o : AObj, o = .arr 0 3 true [[.int .i64 0, .int .i64 0, .nilS]] := ⟨_, rfl⟩
  obtain ⟨o8, ho8⟩ : ∃ o : AObj, o = .arr 0 5 true [eRule r] := ⟨_, rfl⟩
  obtain ⟨o9, ho9⟩ : ∃ o : AObj, o = .arr 0 3 true [[.int .i64 (-1 - r.left), .int .i64 kn, .hsl (b0 + 3) 0 0 r.right.length none]] := ⟨_, rfl⟩
  have n6 : ¬ Soft o6 := ho6 ▸ soft3
  have n8 : ¬ Soft o8 := ho8 ▸ soft5
  have n9 : ¬ Soft o9 := ho9 ▸ soft3
  have loop : ∀ (d m : Nat) (x : X) (acc : List T) (rows : List (List AV)) (h1 : AHeap), d ≤ r.right.length → d < m → b0 + 4 ≤ h1.length → Keep h h1 → h1[b0]? = some o6 → h1[b0 + 1]? = some o8 → h1[b0 + 2]? = some o9 → h1[b0 + 3]? = some (.arr 0 3 true rows) →
      rows.length = r.right.length → (∀ c ∈ rows, c.length = 3) → RepTs h1 (b0 + 4) acc (rows.drop d) → Inv (p + d) x h1 → ∃ h2, Keep h h2 ∧
        ((kidsGo f (r.right.take d).reverse acc x).1.2 = 0 → loopN (evalCode (lim G0.cfg) (r.right.length + 1) B_tree_maker_kids_0) m ⟨(.junk::.junk :: .fn (.func F) first caps :: .junk::.junk::.junk :: .ptr b0 0 0 0 :: .junk :: .ptr (b0 + 1) 0 0 0 :: .ptr (b0 + 2) 0 0 0 :: .int .i64 ((d : Int) - 1) :: .junk::.junk::.junk::.junk::.junk::.junk::.junk::.junk::.junk::.junk::.junk::.junk::.junk::.junk::.junk::.junk::.junk::.junk::.junk::.junk::.junk::.junk::.junk::.junk::.junk::.junk::.junk::.junk::.junk::.junk::.junk::.junk::.junk::.junk::.junk::.junk::.junk::.junk::.junk::.junk::.junk::.junk::.junk::.junk::.junk::.junk::.junk::.junk::.junk::.junk::.junk::.junk :: []), h1⟩ = some (.exit 0, ⟨(.junk::.junk::.junk::.junk::.junk::.junk :: .ptr b0 0 0 0 :: .junk::.junk :: .ptr (b0 + 2) 0 0 0 :: .junk::.junk::.junk::.junk::.junk::.junk::.junk::.junk::.junk::.junk::.junk::.junk::.junk::.junk::.junk::.junk::.junk::.junk::.junk::.junk::.junk::.junk::.junk::.junk::.junk::.junk::.junk::.junk::.junk::.junk::.junk::.junk::.junk::.junk::.junk::.junk::.junk::.junk::.junk::.junk::.junk::.junk::.junk::.junk::.junk::.junk::.junk::.junk::.junk::.junk::.junk::.junk::.junk :: []), h2⟩) ∧
          h2[b0]? = some o6 ∧ h2[b0 + 2]? = some o9 ∧ ∃ rows', h2[b0 + 3]? = some (.arr 0 3 true rows') ∧ RepTs h2 (b0 + 4) (kidsGo f (r.right.take d).reverse acc x).1.1 rows' ∧ Inv p (kidsGo f (r.right.take d).reverse acc x).2 h2) ∧
        ((kidsGo f (r.right.take d).reverse acc x).1.2 ≠ 0 → loopN (evalCode (lim G0.cfg) (r.right.length + 1) B_tree_maker_kids_0) m ⟨(.junk::.junk :: .fn (.func F) first caps :: .junk::.junk::.junk :: .ptr b0 0 0 0 :: .junk :: .ptr (b0 + 1) 0 0 0 :: .ptr (b0 + 2) 0 0 0 :: .int .i64 ((d : Int) - 1) :: .junk::.junk::.junk::.junk::.junk::.junk::.junk::.junk::.junk::.junk::.junk::.junk::.junk::.junk::.junk::.junk::.junk::.junk::.junk::.junk::.junk::.junk::.junk::.junk::.junk::.junk::.junk::.junk::.junk::.junk::.junk::.junk::.junk::.junk::.junk::.junk::.junk::.junk::.junk::.junk::.junk::.junk::.junk::.junk::.junk::.junk::.junk::.junk::.junk::.junk::.junk::.junk :: []), h1⟩ = some (.ret, ⟨(.junk::.junk::.junk::.junk::.junk::.junk :: .ptr b0 0 0 0 :: .int .i64 (kidsGo f (r.right.take d).reverse acc x).1.2 :: .junk::.junk::.junk::.junk::.junk::.junk::.junk::.junk::.junk::.junk::.junk::.junk::.junk::.junk::.junk::.junk::.junk::.junk::.junk::.junk::.junk::.junk::.junk::.junk::.junk::.junk::.junk::.junk::.junk::.junk::.junk::.junk::.junk::.junk::.junk::.junk::.junk::.junk::.junk::.junk::.junk::.junk::.junk::.junk::.junk::.junk::.junk::.junk::.junk::.junk::.junk::.junk::.junk::.junk::.junk :: []), h2⟩) ∧ h2[b0]? = some o6) := by
    intro d
    induction d with
    | zero =>
      intro m x acc rows h1 g1 g2 g3 k1 e6 e8 e9 ea rl rc rr hI
      obtain ⟨m, rfl⟩ : ∃ q, m = q + 1 := ⟨m - 1, by omega⟩
      have z : ((0 : Nat) : Int) - 1 = -1 := rfl
      rw [z, List.take_zero, List.reverse_nil]
      refine ⟨h1, k1, fun _ => ⟨?_, e6, e9, rows, ea, by simpa [kidsGo] using rr, by simpa [kidsGo] using hI⟩, fun q => absurd rfl q⟩
      simp only [loop_e,EB_tree_maker_kids_0,Zab,Zac,Zad,Zag,Zah,Zaj,Zak,Zal,Zas,Zav,Zay,Zbi,Zbk,Zbq,Zcu,Zcv,Zcw,Zda,Zdb,Zdc,List.set_cons_zero,List.set_cons_succ,List.getD_cons_zero,List.getD_cons_succ,Zdj,decide_false,Int.reduceNeg,Int.reduceLE,eq_self]
    | succ d ihd =>
      intro m x acc rows h1 g1 g2 g3 k1 e6 e8 e9 ea rl rc rr hI
      obtain ⟨m, rfl⟩ : ∃ q, m = q + 1 := ⟨m - 1, by omega⟩
      have hd : d < r.right.length := by omega
      have z : ((d + 1 : Nat) : Int) - 1 = d := by omega
      have e1 : (r.right.take (d + 1)).reverse = r.right[d] :: (r.right.take d).reverse := by
        rw [List.take_succ_eq_append_getElem hd, List.reverse_append]; rfl
      have hge : (0 : Int) ≤ (d : Int) := by omega
      have hw : IntKind.i64.wrap ((d : Int) - 1) = (d : Int) - 1 := w64 (by omega) (by omega)
      have hmem : r.right[d] ∈ r.right := List.getElem_mem hd
      obtain ⟨c, h2, hc, cel, kc, ok⟩ := hy.run (p + d) r.right[d] x h1 (hs _ hmem) hI
      have xi := fun h => ix_eIs h false r.right .i64 d hd
      rw [z, e1]
      simp only [kidsGo]
      have f6 := kc _ _ e6 n6
      have f8 := kc _ _ e8 n8
      have f9 := kc _ _ e9 n9
      have fa := kc _ _ ea soft3
      obtain ⟨ca, cb, kv, rfl, hkv⟩ := cel
      by_cases q : (f r.right[d] x).1.2 = 0
      case neg =>
        have hh := get_app f6 [AObj.arr 0 3 true [[.int .i64 ca, .int .i64 cb, kv]]]
        refine ⟨(h2 ++ [AObj.arr 0 3 true [[.int .i64 ca, .int .i64 cb, kv]]]).set b0 o6, ((k1.trans kc).trans (Keep.app _ _)).setN (by omega) _, fun q' => absurd (by simp [q] at q') q, fun _ => ⟨?_, get_set_eq hh⟩⟩
        rw [if_pos q]
        rw [ho6] at f6 hh ⊢
        rw [ho8] at e8
        have hne : b0 ≠ h2.length := fun e => by have := get_len f6; omega
        rcases hkv with rfl | ⟨i, j, rfl⟩ <;> simp only [loop_e,EB_tree_maker_kids_0,Zaa,Zab,Zac,Zad,Zae,Zag,Zai,Zaj,Zak,Zam,Zao,Zar,Zaw,Zay,Zaz,Zba,Zbi,Zbk,Zbm,Zbo,Zbp,Zbq,Zby,Zcb,Zcf,Zcl,Zco,Zcp,Zcu,Zcv,Zcw,Zcx,Zcy,Zcz,Zda,Zdb,Zdc,List.set_cons_zero,List.set_cons_succ,List.getD_cons_zero,List.getD_cons_succ,Option.bind_some,Option.map_some,Zdj,Zdl,Zdw,Zdy,Zea,Zel,decide_true,decide_false,Bool.not_false,List.getElem?_cons_zero,List.getElem?_cons_succ,List.length_cons,List.length_nil,if_true,Nat.reduceAdd,Nat.reduceLeDiff,eq_self,and_self,aload,acells,getArr,part,eI,astore,putCells,get_new,set_new,List.all_cons,List.all_nil,cellOk,Bool.and_self,List.drop_zero,List.drop_succ_cons,List.take_succ_cons,List.take_zero,List.take_nil,List.cons_append,List.nil_append,List.set_cons_zero,hge,e8,xi,hc,q,hh,afill,evp,fillCells]
      case pos =>
        rw [if_neg (fun e => e q)]
        obtain ⟨rep, hI2⟩ := ok q
        have hlen2 := get_len fa
        have hrd : d < rows.length := by omega
        have hcd : rows[d].length = 3 := rc _ (List.getElem_mem hrd)
        obtain ⟨h3, hh3⟩ : ∃ h3, h3 = (h2 ++ [AObj.arr 0 3 true [[.int .i64 ca, .int .i64 cb, kv]]]).set (b0 + 3) (.arr 0 3 true (rows.set d [.int .i64 ca, .int .i64 cb, kv])) := ⟨_, rfl⟩
        have fa' := get_app fa [AObj.arr 0 3 true [[.int .i64 ca, .int .i64 cb, kv]]]
        have f9' := get_app f9 [AObj.arr 0 3 true [[.int .i64 ca, .int .i64 cb, kv]]]
        have kk : Keep h h3 := hh3 ▸ ((k1.trans kc).trans (Keep.app _ _)).setN (by omega) _
        obtain ⟨h4, k4, s1, s2⟩ := ihd m (f r.right[d] x).2 ((f r.right[d] x).1.1 :: acc) (rows.set d [.int .i64 ca, .int .i64 cb, kv]) h3 (by omega) (by omega) (by rw [hh3]; simp; omega) kk
          (by rw [hh3]; exact get_set_ne (get_app f6 _) (by omega)) (by rw [hh3]; exact get_set_ne (get_app f8 _) (by omega)) (by rw [hh3]; exact get_set_ne f9' (by omega)) (by rw [hh3]; exact get_set_eq fa')
          (by simpa using rl) (fun c hc => by rcases List.mem_or_eq_of_mem_set hc with hc | rfl; exact rc _ hc; rfl)
          (by
            have e2 : (rows.set d [.int .i64 ca, .int .i64 cb, kv]).drop d = [.int .i64 ca, .int .i64 cb, kv] :: rows.drop (d + 1) := by
              rw [List.drop_eq_getElem_cons (by simpa using hrd), List.drop_set_of_lt (by omega)]
              simp
            rw [e2, hh3]
            refine ⟨_, _, rfl, (rep.keep (by omega) (Keep.app _ _)).setB (by omega) _, ((rr.keep (Nat.le_refl _) kc).keep (Nat.le_refl _) (Keep.app _ _)).setB (by omega) _⟩)
          (by rw [hh3]; exact hy.set (hy.app hI2 _) fa' _)
        have step : loopN (evalCode (lim G0.cfg) (r.right.length + 1) B_tree_maker_kids_0) (m + 1) ⟨(.junk::.junk :: .fn (.func F) first caps :: .junk::.junk::.junk :: .ptr b0 0 0 0 :: .junk :: .ptr (b0 + 1) 0 0 0 :: .ptr (b0 + 2) 0 0 0 :: .int .i64 (d : Int) :: .junk::.junk::.junk::.junk::.junk::.junk::.junk::.junk::.junk::.junk::.junk::.junk::.junk::.junk::.junk::.junk::.junk::.junk::.junk::.junk::.junk::.junk::.junk::.junk::.junk::.junk::.junk::.junk::.junk::.junk::.junk::.junk::.junk::.junk::.junk::.junk::.junk::.junk::.junk::.junk::.junk::.junk::.junk::.junk::.junk::.junk::.junk::.junk::.junk::.junk::.junk::.junk :: []), h1⟩ = loopN (evalCode (lim G0.cfg) (r.right.length + 1) B_tree_maker_kids_0) m ⟨(.junk::.junk :: .fn (.func F) first caps :: .junk::.junk::.junk :: .ptr b0 0 0 0 :: .junk :: .ptr (b0 + 1) 0 0 0 :: .ptr (b0 + 2) 0 0 0 :: .int .i64 ((d : Int) - 1) :: .junk::.junk::.junk::.junk::.junk::.junk::.junk::.junk::.junk::.junk::.junk::.junk::.junk::.junk::.junk::.junk::.junk::.junk::.junk::.junk::.junk::.junk::.junk::.junk::.junk::.junk::.junk::.junk::.junk::.junk::.junk::.junk::.junk::.junk::.junk::.junk::.junk::.junk::.junk::.junk::.junk::.junk::.junk::.junk::.junk::.junk::.junk::.junk::.junk::.junk::.junk::.junk :: []), h3⟩ := by
          rw [hh3]
          rw [ho8] at e8
          rw [ho9] at f9'
          have hix : aindexAddr (h2 ++ [AObj.arr 0 3 true [[.int .i64 ca, .int .i64 cb, kv]]]) 3 (.hsl (b0 + 3) 0 0 r.right.length none) (.int .i64 d) = some (.ptr (b0 + 3) 0 d 0) := ix_hsl fa' (by omega)
          have hrow : rows[d]? = some rows[d] := List.getElem?_eq_getElem hrd
          have hdr : rows[d].drop 3 = [] := List.drop_eq_nil_iff.2 (by omega)
          rcases hkv with rfl | ⟨i, j, rfl⟩ <;> simp only [loop_e,EB_tree_maker_kids_0,Zaa,Zab,Zac,Zad,Zae,Zag,Zaj,Zak,Zan,Zar,Zas,Zau,Zay,Zaz,Zba,Zbi,Zbk,Zbm,Zbo,Zbp,Zbq,Zby,Zcb,Zcf,Zco,Zcp,Zcu,Zcv,Zcw,Zcx,Zcy,Zcz,Zda,Zdb,Zdc,List.set_cons_zero,List.set_cons_succ,List.getD_cons_zero,List.getD_cons_succ,Option.bind_some,Zde,Zdj,Zdl,Zdw,Zdy,Zdz,Zea,Zel,decide_true,Bool.not_true,List.getElem?_cons_zero,List.getElem?_cons_succ,List.length_cons,List.length_nil,if_true,Nat.reduceAdd,Nat.reduceLeDiff,Int.reduceNeg,eq_self,and_self,aload,acells,getArr,part,eI,astore,putCells,get_new,set_new,List.all_cons,List.all_nil,cellOk,Bool.and_self,List.drop_zero,List.drop_succ_cons,List.take_succ_cons,List.take_zero,List.take_nil,List.nil_append,List.set_cons_zero,hge,e8,xi,hc,q,f9',hix,fa',hrow,hcd,hdr,hw,List.append_nil]
        rw [step]
        exact ⟨h4, k4, s1, s2⟩
  have hbl : ∀ l : AHeap, (h ++ l)[b]? = some (.arr 0 9 true [eMk g mv lf sz yv]) := fun l => get_app hb l
  have hrl := (List.getElem?_eq_some_iff.1 hr).1
  have hrg : g.rules[kn] = r := (List.getElem?_eq_some_iff.1 hr).2
  have hir := fun h => ix_map eRule h 5 false g.rules .i64 kn hrl rfl
  simp only [hrg] at hir
  have hw1 : IntKind.i64.wrap (-1 - r.left) = -1 - r.left := w64 (by omega) (by omega)
  have hw2 : IntKind.i64.wrap ((r.right.length : Int) - 1) = (r.right.length : Int) - 1 := w64 (by omega) (by omega)
  unfold kidsOf
  simp only [hr]
  by_cases h0 : r.right = []
  case pos =>
    have e0 : ∀ (n : Nat) (h1 : AHeap), loopN (evalCode (lim G0.cfg) n B_tree_maker_kids_0) 1 ⟨(.junk::.junk :: .fn (.func F) first caps :: .junk::.junk::.junk :: .ptr h.length 0 0 0 :: .junk :: .ptr (h.length + 1) 0 0 0 :: .ptr (h.length + 2) 0 0 0 :: .int .i64 (-1) :: .junk::.junk::.junk::.junk::.junk::.junk::.junk::.junk::.junk::.junk::.junk::.junk::.junk::.junk::.junk::.junk::.junk::.junk::.junk::.junk::.junk::.junk::.junk::.junk::.junk::.junk::.junk::.junk::.junk::.junk::.junk::.junk::.junk::.junk::.junk::.junk::.junk::.junk::.junk::.junk::.junk::.junk::.junk::.junk::.junk::.junk::.junk::.junk::.junk::.junk::.junk::.junk :: []), h1⟩ = some (.exit 0, ⟨(.junk::.junk::.junk::.junk::.junk::.junk :: .ptr h.length 0 0 0 :: .junk::.junk :: .ptr (h.length + 2) 0 0 0 :: .junk::.junk::.junk::.junk::.junk::.junk::.junk::.junk::.junk::.junk::.junk::.junk::.junk::.junk::.junk::.junk::.junk::.junk::.junk::.junk::.junk::.junk::.junk::.junk::.junk::.junk::.junk::.junk::.junk::.junk::.junk::.junk::.junk::.junk::.junk::.junk::.junk::.junk::.junk::.junk::.junk::.junk::.junk::.junk::.junk::.junk::.junk::.junk::.junk::.junk::.junk::.junk::.junk :: []), h1⟩) := by
      intro n h1
      simp only [loop_e,EB_tree_maker_kids_0,Zab,Zac,Zad,Zag,Zah,Zaj,Zak,Zal,Zas,Zav,Zay,Zbi,Zbk,Zbq,Zcu,Zcv,Zcw,Zda,Zdb,Zdc,List.set_cons_zero,List.set_cons_succ,List.getD_cons_zero,List.getD_cons_succ,Zdj,decide_false,Int.reduceNeg,Int.reduceLE,eq_self]
    rw [h0] at hI
    have hwm : IntKind.i64.wrap (0 - 1) = -1 := w64 (by omega) (by omega)
    refine ⟨[.int .i64 (-1 - r.left), .int .i64 kn, .nilS], h ++ [.arr 0 3 true [[.int .i64 (-1 - r.left), .int .i64 kn, .nilS]], .arr 0 5 true [[.int .i64 r.left, .vsl false (eIs []), .vsl false (eSs r.fields), .str r.label, .int .i64 r.level]], .arr 0 3 true [[.int .i64 (-1 - r.left), .int .i64 kn, .nilS]]], lim_func rfl P_tree_maker_kids 1 ?_, ⟨_, _, _, rfl, .inl rfl⟩, Keep.app _ _, fun _ => ?_⟩
    · rw [R_tree_maker_kids]
      simp only [Zaa,Zab,Zac,Zad,Zae,Zaf,Zag,Zai,Zaj,Zak,Zap,Zas,Zat,Zay,Zba,Zbi,Zbk,Zbm,Zbo,Zbp,Zbq,Zby,Zbz,Zcb,Zcg,Zcl,Zct,Zcu,Zcv,Zcw,Zcx,Zda,Zdb,Zdc,List.set_cons_zero,List.set_cons_succ,List.getD_cons_zero,List.getD_cons_succ,Option.bind_some,Option.map_some,Zde,Zdi,Zds,Zdw,Zdy,Zdz,Zea,Zeb,Zeo,decide_false,List.getElem?_cons_zero,List.getElem?_cons_succ,List.length_cons,List.length_nil,if_true,if_false,Nat.reduceAdd,Nat.reduceSub,Nat.reduceLeDiff,Int.reduceNeg,Int.reduceLT,eq_self,and_self,not_true_eq_false,List.length_cons,List.length_nil,List.replicate_succ,List.replicate_zero,List.cons_append,List.nil_append,aload,acells,getArr,part,astore,putCells,List.all_cons,List.all_nil,cellOk,Bool.and_self,List.drop_zero,List.drop_succ_cons,List.take_succ_cons,List.take_zero,List.take_nil,List.cons_append,List.nil_append,List.set_cons_zero,hbl,hir,hw1,hap_get0,hap_get,hap_set0,hap_set,List.append_assoc,List.length_append,e0,resAll,resVals,resVal,h0,List.reverse_nil,kidsGo,z0,hwm,ne_eq,an_p,afill,evp,fillCells,Nat.reduceLT]
    · rw [h0]
      exact ⟨⟨.nilS, rfl, .inl ⟨rfl, rfl⟩⟩, hy.app hI _⟩
  case neg =>
    have hpos : (0 : Int) < r.right.length := by
      have : r.right.length ≠ 0 := fun e => h0 (List.length_eq_zero_iff.1 e)
      omega
    have hmk := fun (h : AHeap) (sz bytes : Nat) (z : List AV) (hb : bytes ≤ 1000000) => amk_n (h := h) (k := .i64) (k' := .i64) hn sz bytes z hb
    subst hb0
    obtain ⟨h2, kk, s1, s2⟩ := loop r.right.length (r.right.length + 1) x [] (List.replicate r.right.length [.int .i64 0, .int .i64 0, .nilS]) (h ++ [o6, o8, o9, .arr 0 3 true (List.replicate r.right.length [.int .i64 0, .int .i64 0, .nilS])]) (Nat.le_refl _) (by omega) (by simp) (Keep.app _ _)
      (by rw [hap_get0]; rfl) (by rw [hap_get]; rfl) (by rw [hap_get]; rfl) (by rw [hap_get]; rfl) (by simp) (fun c hc => by rw [(List.mem_replicate.1 hc).2]; rfl) (by rw [List.drop_of_length_le (by simp)]; exact rfl) (hy.app hI _)
    rw [List.take_length] at s1 s2
    by_cases q : (kidsGo f r.right.reverse [] x).1.2 = 0
    case pos =>
      obtain ⟨e, e6, e9, rows, ea, rep, inv⟩ := s1 q
      have ol := rep.len
      rw [if_neg (fun e => e q)]
      refine ⟨[.int .i64 (-1 - r.left), .int .i64 kn, .hsl (h.length + 3) 0 0 r.right.length none], h2.set h.length (.arr 0 3 true [[.int .i64 (-1 - r.left), .int .i64 kn, .hsl (h.length + 3) 0 0 r.right.length none]]), lim_func rfl P_tree_maker_kids (r.right.length + 1) ?_, ⟨_, _, _, rfl, .inr ⟨_, _, rfl⟩⟩, kk.setN (Nat.le_refl _) _, fun _ => ⟨?_, hy.set inv (ho6 ▸ e6) _⟩⟩
      · have g6 := get_set_eq (y := AObj.arr 0 3 true [[.int .i64 (-1 - r.left), .int .i64 kn, .hsl (h.length + 3) 0 0 r.right.length none]]) e6
        rw [ho6] at e6
        rw [ho9] at e9
        rw [ho6, ho8, ho9] at e
        rw [R_tree_maker_kids]
        simp only [Zab,Zac,Zad,Zae,Zaf,Zag,Zai,Zaj,Zak,Zap,Zar,Zat,Zay,Zaz,Zba,Zbi,Zbk,Zbm,Zbo,Zbp,Zbq,Zbv,Zby,Zbz,Zcb,Zcg,Zcl,Zct,Zcu,Zcv,Zcw,Zcx,Zda,Zdb,Zdc,List.set_cons_zero,List.set_cons_succ,List.getD_cons_zero,List.getD_cons_succ,Option.bind_some,Option.map_some,Zde,Zdi,Zds,Zdw,Zdy,Zdz,Zea,Zeb,Zef,Zeo,decide_true,List.getElem?_cons_zero,List.getElem?_cons_succ,List.length_cons,List.length_nil,if_true,Nat.reduceAdd,Nat.reduceSub,Nat.reduceLeDiff,Int.reduceNeg,eq_self,and_self,List.length_cons,List.length_nil,List.replicate_succ,List.replicate_zero,List.cons_append,List.nil_append,aload,acells,getArr,part,astore,putCells,List.all_cons,List.all_nil,cellOk,Bool.and_self,List.drop_zero,List.drop_succ_cons,List.take_succ_cons,List.take_zero,List.take_nil,List.cons_append,List.nil_append,List.set_cons_zero,hbl,hir,hw1,hw2,hpos,hmk,hap_get,hap_set,List.append_assoc,List.length_append,e,e6,e9,g6,resAll,resVals,resVal,an_p,afill,evp,fillCells,Nat.reduceLT]
      · have el : (kidsGo f r.right.reverse [] x).1.1.length = r.right.length := by
          rw [kidsGo_len f _ _ _ q]; simp
        refine ⟨_, rfl, .inr ⟨h.length + 3, rows, by omega, by rw [el], get_set_ne ea (by omega), rep.setB (by omega) _⟩⟩
    case neg =>
      obtain ⟨e, e6⟩ := s2 q
      rw [if_pos q]
      refine ⟨[.int .i64 0, .int .i64 0, .nilS], h2, lim_func rfl P_tree_maker_kids (r.right.length + 1) ?_, cel0, kk, fun e => absurd e q⟩
      rw [ho6] at e6
      rw [ho6, ho8, ho9] at e
      rw [R_tree_maker_kids]
      simp only [Zab,Zac,Zad,Zae,Zaf,Zag,Zaj,Zak,Zam,Zao,Zar,Zat,Zay,Zaz,Zba,Zbi,Zbk,Zbm,Zbo,Zbp,Zbq,Zbv,Zby,Zbz,Zcb,Zcg,Zcl,Zct,Zcu,Zcv,Zcw,Zcx,Zda,Zdb,Zdc,List.set_cons_zero,List.set_cons_succ,List.getD_cons_zero,List.getD_cons_succ,Option.bind_some,Option.map_some,Zde,Zdi,Zds,Zdw,Zdy,Zdz,Zea,Zeb,Zef,Zeo,decide_true,List.getElem?_cons_zero,List.getElem?_cons_succ,List.length_cons,List.length_nil,if_true,Nat.reduceAdd,Nat.reduceSub,Nat.reduceLeDiff,Int.reduceNeg,eq_self,and_self,List.length_cons,List.length_nil,List.replicate_succ,List.replicate_zero,List.cons_append,List.nil_append,aload,acells,getArr,part,astore,putCells,List.all_cons,List.all_nil,cellOk,Bool.and_self,List.drop_zero,List.drop_succ_cons,List.take_succ_cons,List.take_zero,List.take_nil,List.cons_append,List.nil_append,List.set_cons_zero,hbl,hir,hw1,hw2,hpos,hmk,hap_get,hap_set,List.append_assoc,List.length_append,e,e6,resAll,resVals,resVal,an_p,afill,evp,fillCells,Nat.reduceLT]

/-- A list of numbers, read only. -/
def Li (l : List Int) (v : AV) : Prop := (l = [] ∧ v = .nilS) ∨ ∃ e, v = .vsl e (eIs l)
theorem Li.len {l : List Int} {v : AV} (hl : Li l v) (h : AHeap) : alen h .slice v = some (.int .i64 l.length) := by
  rcases hl with ⟨rfl, rfl⟩ | ⟨e, rfl⟩
  · rfl
  · simp [alen, Zeo]
theorem Li.ix {l : List Int} {v : AV} (hl : Li l v) (h : AHeap) (k : IntKind) (j : Nat) (hj : j < l.length) : aindexAddr h 1 v (.int k j) = some (.vptr (eI l[j]) 0) := by
  rcases hl with ⟨rfl, rfl⟩ | ⟨e, rfl⟩
  · simp at hj
  · exact ix_eIs h e l k j hj
theorem Li.fz {l : List Int} {v : AV} (hl : Li l v) (h : AHeap) : freeze h 1000 v = some (v, true) := by
  rcases hl with ⟨rfl, rfl⟩ | ⟨e, rfl⟩ <;> rfl
theorem Li.cell {l : List Int} {v : AV} (hl : Li l v) : cellsOf v = [v] ∧ cellOk v = true := by
  rcases hl with ⟨rfl, rfl⟩ | ⟨e, rfl⟩ <;> exact ⟨rfl, rfl⟩
theorem li_encL (l : List Int) : Li l (encL l) := by
  unfold encL
  split
  · rename_i e; exact .inl ⟨e, rfl⟩
  · exact .inr ⟨false, rfl⟩
theorem li_vsl (e : Bool) (l : List Int) : Li l (.vsl e (eIs l)) := .inr ⟨e, rfl⟩
/-- Without its last. -/
theorem Li.cut {l : List Int} {k : Int} {v : AV} (hl : Li (l ++ [k]) v) : ∃ e, ∀ h : AHeap, aslice h 1 v none (some (.int .i64 l.length)) none = some (.vsl e (eIs l)) := by
  rcases hl with ⟨e, _⟩ | ⟨e, rfl⟩
  · simp at e
  · have h1 : (eIs (l ++ [k])).take l.length = eIs l := by
      simp [eIs]
    refine ⟨e && l.length == (eIs (l ++ [k])).length, fun h => ?_⟩
    rw [sl_hi h 1 e (eIs (l ++ [k])) .i64 l.length (by simp [eIs]) (by rw [h1]; exact headSz_map eI 1 (fun _ => rfl) l), h1]

/-- The maker. -/
def MInv (g : GramD) (b n : Nat) (p : Nat) (st : MS) (h : AHeap) : Prop :=
  ∃ mv yv, h[b]? = some (.arr 0 9 true [eMk g mv (.int .i64 0) (.int .i64 st.size) yv]) ∧ Li st.mv.reverse mv ∧ Own st.y yv h ∧ (∀ k ∈ st.mv, 1 ≤ k ∧ k < g.rules.length) ∧ (st.y.length : Int) + p ≤ st.size ∧ st.size ≤ 65536 ∧ st.mv.length ≤ n ∧ st.mv.length ≤ 1000000
theorem MInv.app {g : GramD} {b n p : Nat} {st : MS} {h : AHeap} (hI : MInv g b n p st h) (l : AHeap) : MInv g b n p st (h ++ l) := by
  obtain ⟨mv, yv, h1, h2, h3, h4⟩ := hI
  exact ⟨mv, yv, get_app h1 l, h2, h3.app l, h4⟩
theorem MInv.set {g : GramD} {b n p : Nat} {st : MS} {h : AHeap} (hI : MInv g b n p st h) {j : Nat} {c} (hj : h[j]? = some (.arr 0 3 true c)) (c') : MInv g b n p st (h.set j (.arr 0 3 true c')) := by
  obtain ⟨mv, yv, h1, h2, h3, h4⟩ := hI
  exact ⟨mv, yv, get_set_ne h1 (fun e => by subst e; rw [hj] at h1; cases h1), h2, h3.set hj (fun _ _ e => by cases e) _, h4⟩

structure GramR (g : GramD) : Prop where
  ok : g.Ok
  good : Good g
theorem GramR.rule {g : GramD} (hg : GramR g) {k : Nat} {r : RuleD} (hr : g.rules[k]? = some r) : (r.right.length ≤ 1000) ∧ (∀ s ∈ r.right, inI64 s) ∧ (0 ≤ r.left ∧ r.left < 9223372036854775807) := by
  obtain ⟨h1, h2, h3, h4⟩ := hg.good.rule (List.mem_of_getElem? hr)
  have := hg.good.nt
  have := hg.good.tm
  refine ⟨by omega, fun s hs => ?_, by omega⟩
  have h5 := h4 s hs
  simp only [badSym,isSym,Bool.or_eq_false_iff,Bool.not_eq_false',Bool.and_eq_true,decide_eq_true_eq] at h5
  exact ⟨by omega, by omega⟩
end Go.Proofs.Ytkimloceaihplaa.Ai
namespace Go.Proofs.Ytkimloceaihplaa.Ai
open Go Go.Proofs
set_option linter.unusedVariables false
set_option linter.unusedSimpArgs false
set_option maxRecDepth 10000
set_option maxHeartbeats 4000000

theorem MInv.up {g : GramD} {b n p : Nat} {st : MS} {h : AHeap} (hI : MInv g b n p st h) : MInv g b (n + 1) p st h := by
  obtain ⟨mv, yv, h1, h2, h3, h4, h5, h6, h7, h8⟩ := hI
  exact ⟨mv, yv, h1, h2, h3, h4, h5, h6, by omega, h8⟩
/-- A leaf is made. -/
theorem leaf_new {g : GramD} {b n p : Nat} {st : MS} {h : AHeap} {mv yv : AV} {s : Int} (hb : h[b]? = some (.arr 0 9 true [eMk g mv (.int .i64 0) (.int .i64 st.size) yv])) (hl : Li st.mv.reverse mv) (ho : Own st.y yv h) (hk : ∀ k ∈ st.mv, 1 ≤ k ∧ k < g.rules.length) (hp : (st.y.length : Int) + (p + 1 : Nat) ≤ st.size) (hs : st.size ≤ 65536) (hn : st.mv.length ≤ n ∧ st.mv.length ≤ 1000000) :
    ∃ i ver h2, aapp (h ++ [.arr 0 3 true [[.int .i64 0, .int .i64 0, .nilS]]]) 1 8 yv (.vsl true [[.int .i64 s]]) = some (.hsl i ver 0 (st.y.length + 1) none, h2) ∧ h2[b]? = some (.arr 0 9 true [eMk g mv (.int .i64 0) (.int .i64 st.size) yv]) ∧ h2[h.length]? = some (.arr 0 3 true [[.int .i64 0, .int .i64 0, .nilS]]) ∧ b ≠ h.length ∧
      MInv g b n p ⟨st.mv, st.size, st.y ++ [s]⟩ ((h2.set b (.arr 0 9 true [eMk g mv (.int .i64 0) (.int .i64 st.size) (.hsl i ver 0 (st.y.length + 1) none)])).set h.length (.arr 0 3 true [[.int .i64 s, .int .i64 (-1), .nilS]])) ∧
      Keep h ((h2.set b (.arr 0 9 true [eMk g mv (.int .i64 0) (.int .i64 st.size) (.hsl i ver 0 (st.y.length + 1) none)])).set h.length (.arr 0 3 true [[.int .i64 s, .int .i64 (-1), .nilS]])) := by
  obtain ⟨v', h2, e, ow, ka⟩ := (ho.app [.arr 0 3 true [[.int .i64 0, .int .i64 0, .nilS]]]).append (elems_one (h ++ [.arr 0 3 true [[.int .i64 0, .int .i64 0, .nilS]]]) true s) (by simp; omega)
  obtain ⟨i, ver, rfl⟩ := ow.hsl (by simp)
  have hlen : (st.y ++ [s]).length = st.y.length + 1 := by simp
  rw [hlen] at e ow
  have hbl := get_len hb
  have eb := ka b _ (get_app hb _) (fun _ _ e => by cases e)
  have en := ka h.length _ (get_new h (.arr 0 3 true [[.int .i64 0, .int .i64 0, .nilS]])) (fun _ _ e => by cases e)
  have en' := get_set_ne (y := AObj.arr 0 9 true [eMk g mv (.int .i64 0) (.int .i64 st.size) (.hsl i ver 0 (st.y.length + 1) none)]) en (i := b) (by omega)
  refine ⟨i, ver, h2, e, eb, en, by omega, ?_, ?_⟩
  · refine ⟨mv, .hsl i ver 0 (st.y.length + 1) none, get_set_ne (get_set_eq eb) (by omega), hl, (ow.set eb (fun _ _ e => by cases e) _).set en' (fun _ _ e => by cases e) _, hk, ?_, hs, hn⟩
    simp only [List.length_append,List.length_cons,List.length_nil]
    omega
  · exact ((Keep.trans (Keep.app h _) ka.keep).setS eb (.inr ⟨_, rfl⟩) _).setN (Nat.le_refl _) _

theorem f_node {g : GramD} (hg : GramR g) (b : Nat) : ∀ n, KOne 44 [.ptr b 0 0 0] [] (MInv g b n) (mkNode g n) := by
  intro n
  induction n with
  | zero =>
    refine ⟨fun hI l => hI.app l, fun hI _ _ hj c' => hI.set hj c', fun p s x h hs hI => ?_⟩
    obtain ⟨mv, yv, hb, hl, ho, hk, hp, hsz, hn⟩ := hI
    obtain ⟨i, ver, h2, e, eb, en, hne, inv, kp⟩ := leaf_new (s := s) hb hl ho hk hp hsz hn
    have hx : x.mv = [] := List.length_eq_zero_iff.1 (by omega)
    have hll := hl.len
    rw [hx] at hll
    have hbl : ∀ l : AHeap, (h ++ l)[b]? = _ := fun l => get_app hb l
    have en' := get_set_ne (y := AObj.arr 0 9 true [eMk g mv (.int .i64 0) (.int .i64 x.size) (.hsl i ver 0 (x.y.length + 1) none)]) en (i := b) (by omega)
    have en2 := get_set_eq (y := AObj.arr 0 3 true [[.int .i64 s, .int .i64 (-1), .nilS]]) en'
    refine ⟨[.int .i64 s, .int .i64 (-1), .nilS], _, lim_func rfl P_tree_maker_node 1 ?_, ⟨_, _, _, rfl, .inl rfl⟩, kp, fun _ => ⟨⟨_, rfl, .inl ⟨rfl, rfl⟩⟩, inv⟩⟩
    rw [R_tree_maker_node]
    by_cases q : 0 ≤ s
    · simp only [Zab,Zac,Zad,Zai,Zaj,Zak,Zam,Zar,Zay,Zaz,Zba,Zbd,Zbg,Zbi,Zbj,Zbk,Zbl,Zbm,Zbo,Zbp,Zbq,Zby,Zbz,Zci,Zcl,Zcm,Zct,Zcu,Zcv,Zcw,Zcx,List.set_cons_zero,List.set_cons_succ,List.getD_cons_zero,List.getD_cons_succ,Option.bind_some,Option.map_some,Zdj,Zdw,Zdy,Zdz,Zea,Zeb,Zef,decide_true,List.getElem?_cons_zero,List.length_cons,List.length_nil,if_true,Nat.reduceAdd,Nat.reduceSub,Nat.reduceLeDiff,Int.reduceNeg,eq_self,and_self,List.length_cons,List.length_nil,List.replicate_succ,List.replicate_zero,List.cons_append,List.nil_append,aload,acells,getArr,part,astore,putCells,List.all_cons,List.all_nil,cellOk,Bool.and_self,List.drop_zero,List.drop_succ_cons,List.take_succ_cons,List.take_zero,List.take_nil,List.cons_append,List.nil_append,List.set_cons_zero,q,hbl,an_p,afill,evp,ev2,fillCells,Nat.reduceLT,lit_one,e,eb,en',en2,mkNode,resAll,resVals,resVal]
    · simp only [Zab,Zac,Zad,Zai,Zaj,Zak,Zam,Zar,Zay,Zaz,Zba,Zbc,Zbh,Zbi,Zbj,Zbk,Zbl,Zbm,Zbo,Zbp,Zbq,Zby,Zbz,Zcg,Zci,Zcl,Zcm,Zct,Zcu,Zcv,Zcw,Zcx,List.set_cons_zero,List.set_cons_succ,List.getD_cons_zero,List.getD_cons_succ,Option.bind_some,Option.map_some,Zdj,Zdk,Zdw,Zdy,Zdz,Zea,Zeb,Zef,decide_true,decide_false,List.getElem?_cons_zero,List.length_cons,List.length_nil,if_true,Nat.reduceAdd,Nat.reduceSub,Nat.reduceLeDiff,Int.reduceNeg,eq_self,and_self,List.length_cons,List.length_nil,List.replicate_succ,List.replicate_zero,List.cons_append,List.nil_append,aload,acells,getArr,part,astore,putCells,List.all_cons,List.all_nil,cellOk,Bool.and_self,List.drop_zero,List.drop_succ_cons,List.take_succ_cons,List.take_zero,List.take_nil,List.cons_append,List.nil_append,List.set_cons_zero,q,hbl,hll,List.reverse_nil,z0,an_p,afill,evp,ev2,fillCells,Nat.reduceLT,lit_one,e,eb,en',en2,mkNode,resAll,resVals,resVal]
  | succ n ih =>
    refine ⟨fun hI l => hI.app l, fun hI _ _ hj c' => hI.set hj c', fun p s x h hs hI => ?_⟩
    obtain ⟨mv, yv, hb, hl, ho, hk, hp, hsz, hn⟩ := hI
    have hbl : ∀ l : AHeap, (h ++ l)[b]? = _ := fun l => get_app hb l
    have hbn : b < h.length := get_len hb
    have hll := hl.len
    by_cases q : 0 ≤ s ∨ x.mv = []
    case pos =>
      obtain ⟨i, ver, h2, e, eb, en, hne, inv, kp⟩ := leaf_new (s := s) hb hl ho hk hp hsz hn
      have en' := get_set_ne (y := AObj.arr 0 9 true [eMk g mv (.int .i64 0) (.int .i64 x.size) (.hsl i ver 0 (x.y.length + 1) none)]) en (i := b) (by omega)
      have en2 := get_set_eq (y := AObj.arr 0 3 true [[.int .i64 s, .int .i64 (-1), .nilS]]) en'
      have em : mkNode g (n + 1) s x = ((leafT s, 0), ⟨x.mv, x.size, x.y ++ [s]⟩) := by
        by_cases q1 : 0 ≤ s
        · exact mkNode_leaf g _ s q1 x
        · rcases q with q | q
          · exact absurd q q1
          · simp only [mkNode,if_neg q1,q]
      rw [em]
      refine ⟨[.int .i64 s, .int .i64 (-1), .nilS], _, lim_func rfl P_tree_maker_node 1 ?_, ⟨_, _, _, rfl, .inl rfl⟩, kp, fun _ => ⟨⟨_, rfl, .inl ⟨rfl, rfl⟩⟩, inv⟩⟩
      rw [R_tree_maker_node]
      by_cases q1 : 0 ≤ s
      · simp only [Zab,Zac,Zad,Zai,Zaj,Zak,Zam,Zar,Zay,Zaz,Zba,Zbd,Zbg,Zbi,Zbj,Zbk,Zbl,Zbm,Zbo,Zbp,Zbq,Zby,Zbz,Zci,Zcl,Zcm,Zct,Zcu,Zcv,Zcw,Zcx,List.set_cons_zero,List.set_cons_succ,List.getD_cons_zero,List.getD_cons_succ,Option.bind_some,Option.map_some,Zdj,Zdw,Zdy,Zdz,Zea,Zeb,Zef,decide_true,List.getElem?_cons_zero,List.length_cons,List.length_nil,if_true,Nat.reduceAdd,Nat.reduceSub,Nat.reduceLeDiff,Int.reduceNeg,eq_self,and_self,List.length_cons,List.length_nil,List.replicate_succ,List.replicate_zero,List.cons_append,List.nil_append,aload,acells,getArr,part,astore,putCells,List.all_cons,List.all_nil,cellOk,Bool.and_self,List.drop_zero,List.drop_succ_cons,List.take_succ_cons,List.take_zero,List.take_nil,List.cons_append,List.nil_append,List.set_cons_zero,q1,hbl,an_p,afill,evp,ev2,fillCells,Nat.reduceLT,lit_one,e,eb,en',en2,resAll,resVals,resVal]
      · have hx : x.mv = [] := by rcases q with q | q; exact absurd q q1; exact q
        rw [hx] at hll
        simp only [Zab,Zac,Zad,Zai,Zaj,Zak,Zam,Zar,Zay,Zaz,Zba,Zbc,Zbh,Zbi,Zbj,Zbk,Zbl,Zbm,Zbo,Zbp,Zbq,Zby,Zbz,Zcg,Zci,Zcl,Zcm,Zct,Zcu,Zcv,Zcw,Zcx,List.set_cons_zero,List.set_cons_succ,List.getD_cons_zero,List.getD_cons_succ,Option.bind_some,Option.map_some,Zdj,Zdk,Zdw,Zdy,Zdz,Zea,Zeb,Zef,decide_true,decide_false,List.getElem?_cons_zero,List.length_cons,List.length_nil,if_true,Nat.reduceAdd,Nat.reduceSub,Nat.reduceLeDiff,Int.reduceNeg,eq_self,and_self,List.length_cons,List.length_nil,List.replicate_succ,List.replicate_zero,List.cons_append,List.nil_append,aload,acells,getArr,part,astore,putCells,List.all_cons,List.all_nil,cellOk,Bool.and_self,List.drop_zero,List.drop_succ_cons,List.take_succ_cons,List.take_zero,List.take_nil,List.cons_append,List.nil_append,List.set_cons_zero,q1,hbl,hll,List.reverse_nil,z0,an_p,afill,evp,ev2,fillCells,Nat.reduceLT,lit_one,e,eb,en',en2,resAll,resVals,resVal]
    case neg =>
    have q1 : ¬ (0 ≤ s) := fun e => q (.inl e)
    obtain ⟨k, ms, hx⟩ : ∃ k ms, x.mv = k :: ms := by
      cases hx : x.mv with
      | nil => exact absurd (.inr hx) q
      | cons k ms => exact ⟨k, ms, rfl⟩
    rw [hx] at hl hll hk
    rw [hx, List.length_cons] at hn
    simp only [List.reverse_cons,List.length_append,List.length_reverse,List.length_cons,List.length_nil] at hl hll
    obtain ⟨hk1, hk2⟩ := hk k (by simp)
    obtain ⟨kn, rfl⟩ : ∃ kn : Nat, k = kn := ⟨k.toNat, by omega⟩
    have hkl : kn < g.rules.length := by omega
    obtain ⟨r, hr⟩ : ∃ r, g.rules[kn]? = some r := ⟨_, List.getElem?_eq_getElem hkl⟩
    obtain ⟨r1, r2, r3⟩ := hg.rule hr
    have hrg : g.rules[kn] = r := (List.getElem?_eq_some_iff.1 hr).2
    have hir := fun h => ix_map eRule h 5 false g.rules .i64 kn hkl rfl
    simp only [hrg] at hir
    have hgl := hg.ok.rules
    rw [maxLen_eq] at hgl
    have hix := fun h => hl.ix h .i64 ms.length (by simp)
    have hlast : (ms.reverse ++ [(kn : Int)])[ms.length]'(by simp) = kn := by
      rw [List.getElem_append_right (by simp)]; simp
    simp only [hlast] at hix
    obtain ⟨ef, hcut⟩ := hl.cut
    rw [List.length_reverse] at hcut
    have hw0 : IntKind.i64.wrap (((ms.length + (0 + 1) : Nat) : Int) - 1) = ms.length := by rw [w64 (by omega) (by omega)]; omega
    have hne0 : ¬ (((ms.length + (0 + 1) : Nat) : Int) = 0) := by omega
    have hw1 : IntKind.i64.wrap (-1 - r.left) = -1 - r.left := w64 (by omega) (by omega)
    have hyl := x.y.length
    have hw2 : IntKind.i64.wrap (x.size + r.right.length) = x.size + r.right.length := w64 (by omega) (by omega)
    have em : mkNode g (n + 1) s x = mkStep g (mkNode g n) s kn ms x := by simp only [mkNode,if_neg q1,hx]
    rw [em]
    unfold mkStep
    simp only [Int.toNat_natCast,hr]
    by_cases c1 : s = -1 - r.left
    case neg =>
      rw [if_pos c1]
      refine ⟨[.int .i64 0, .int .i64 0, .nilS], h ++ [.arr 0 3 true [[.int .i64 0, .int .i64 0, .nilS]], .arr 0 5 true [eRule r]], lim_func rfl P_tree_maker_node 1 ?_, cel0, Keep.app _ _, fun e => by cases e⟩
      rw [R_tree_maker_node]
      simp only [Zaa,Zab,Zac,Zad,Zai,Zaj,Zak,Zam,Zar,Zas,Zay,Zba,Zbc,Zbh,Zbi,Zbj,Zbk,Zbl,Zbm,Zbo,Zbp,Zbq,Zby,Zbz,Zcb,Zcg,Zcl,Zct,Zcu,Zcv,Zcw,Zcx,List.set_cons_zero,List.set_cons_succ,List.getD_cons_zero,List.getD_cons_succ,Option.bind_some,Option.map_some,Zde,Zdj,Zdk,Zdl,Zdw,Zdy,Zdz,Zea,decide_false,Bool.not_false,List.getElem?_cons_zero,List.getElem?_cons_succ,List.length_cons,List.length_nil,if_true,Nat.reduceAdd,Nat.reduceSub,Nat.reduceLeDiff,Int.reduceNeg,eq_self,and_self,List.length_cons,List.length_nil,List.replicate_succ,List.replicate_zero,List.cons_append,List.nil_append,aload,acells,getArr,part,eI,astore,putCells,List.all_cons,List.all_nil,cellOk,Bool.and_self,List.drop_zero,List.drop_succ_cons,List.take_succ_cons,List.take_zero,List.take_nil,List.cons_append,List.nil_append,List.set_cons_zero,q1,hbl,hll,hne0,hw0,hix,hir,hw1,c1,hap_get0,hap_get,hap_set0,hap_set,List.append_assoc,List.length_append,an_p,afill,evp,fillCells,resAll,resVals,resVal]
    case pos =>
    rw [if_neg (fun e => e c1)]
    obtain ⟨v2, hv2⟩ : ∃ v, v = AV.vsl ef (eIs ms.reverse) := ⟨_, rfl⟩
    have hsb : ∀ (l : AHeap) (o : AObj), (h ++ l).set b o = h.set b o ++ l := fun l o => by rw [List.set_append_left _ _ hbn]
    have hsl : ∀ o : AObj, (h.set b o).length = h.length := fun o => by simp
    have hgb : ∀ (o : AObj) (l : AHeap), (h.set b o ++ l)[b]? = some o := fun o l => get_app (get_set_eq hb) l
    have hg0 : ∀ (o : AObj) (l : AHeap), (h.set b o ++ l)[h.length]? = l[0]? := fun o l => by have := hap_get0 (h.set b o) l; rwa [hsl] at this
    have hgk : ∀ (o : AObj) (l : AHeap) (j : Nat), (h.set b o ++ l)[h.length + j]? = l[j]? := fun o l j => by have := hap_get (h.set b o) l j; rwa [hsl] at this
    have hs0 : ∀ (o o' : AObj) (l : AHeap), (h.set b o ++ l).set h.length o' = h.set b o ++ l.set 0 o' := fun o o' l => by have := hap_set0 (h.set b o) l o'; rwa [hsl] at this
    have hss : ∀ (o o' : AObj) (l : AHeap), (h.set b o ++ l).set b o' = h.set b o' ++ l := fun o o' l => by rw [List.set_append_left _ _ (by rw [hsl]; exact hbn), List.set_set]
    have hkeep : ∀ (o : AObj) (l : AHeap), Keep h (h.set b o ++ l) := fun o l => ((Keep.refl h).setS hb (.inr ⟨_, rfl⟩) o).trans (Keep.app _ _)
    by_cases c2 : 65536 < x.size + r.right.length
    case pos =>
      rw [if_pos c2]
      refine ⟨[.int .i64 0, .int .i64 0, .nilS], h.set b (.arr 0 9 true [eMk g (.vsl ef (eIs ms.reverse)) (.int .i64 0) (.int .i64 (x.size + r.right.length)) yv]) ++ [.arr 0 3 true [[.int .i64 0, .int .i64 0, .nilS]], .arr 0 5 true [eRule r]], lim_func rfl P_tree_maker_node 1 ?_, cel0, hkeep _ _, fun e => by cases e⟩
      rw [R_tree_maker_node]
      subst c1
      simp only [Zaa,Zab,Zac,Zad,Zai,Zaj,Zak,Zam,Zar,Zas,Zay,Zba,Zbc,Zbh,Zbi,Zbj,Zbk,Zbl,Zbm,Zbo,Zbp,Zbq,Zbw,Zby,Zbz,Zcb,Zcg,Zcl,Zct,Zcu,Zcv,Zcw,Zcx,List.set_cons_zero,List.set_cons_succ,List.getD_cons_zero,List.getD_cons_succ,Option.bind_some,Option.map_some,Zdd,Zde,Zdi,Zdj,Zdk,Zdl,Zds,Zdw,Zdy,Zdz,Zea,Zeb,Zee,Zeo,decide_true,decide_false,Bool.not_true,List.getElem?_cons_zero,List.getElem?_cons_succ,List.length_cons,List.length_nil,if_true,Nat.reduceAdd,Nat.reduceSub,Nat.reduceLeDiff,Int.reduceNeg,eq_self,and_self,List.length_cons,List.length_nil,List.replicate_succ,List.replicate_zero,List.cons_append,List.nil_append,aload,acells,getArr,part,eI,astore,putCells,List.all_cons,List.all_nil,cellOk,Bool.and_self,List.drop_zero,List.drop_succ_cons,List.take_succ_cons,List.take_zero,List.take_nil,List.cons_append,List.nil_append,List.set_cons_zero,q1,hbl,hll,hne0,hw0,hix,hir,hw1,hcut,Option.map_none,hsb,hgb,hg0,hgk,hs0,hss,hw2,c2,hap_get,hap_set,List.append_assoc,List.length_append,an_p,afill,evp,fillCells,resAll,resVals,resVal]
    case neg =>
    rw [if_neg c2]
    obtain ⟨c, h', hc, cel, kp, ok⟩ := f_kids ih g b (.vsl ef (eIs ms.reverse)) (.int .i64 0) (.int .i64 (x.size + r.right.length)) yv kn r hr (by omega) r1 r2 r3 p ⟨ms, x.size + r.right.length, x.y⟩
      (h.set b (.arr 0 9 true [eMk g (.vsl ef (eIs ms.reverse)) (.int .i64 0) (.int .i64 (x.size + r.right.length)) yv]) ++ [.arr 0 3 true [[.int .i64 0, .int .i64 0, .nilS]], .arr 0 5 true [eRule r]])
      ⟨.vsl ef (eIs ms.reverse), yv, hgb _ _, li_vsl _ _, (ho.set hb (fun _ _ e => by cases e) _).app _, fun k hk' => hk k (List.mem_cons_of_mem _ hk'), by simp only; omega, by simp only; omega, by simp only; omega, by simp only; omega⟩ (hgb _ _)
    have e4 := kp h.length _ (hg0 _ _) soft3
    have e4' := get_set_eq (y := AObj.arr 0 3 true [c]) e4
    refine ⟨c, h'.set h.length (.arr 0 3 true [c]), lim_func rfl P_tree_maker_node 1 ?_, cel, ((hkeep _ _).trans kp).setN (Nat.le_refl _) _, fun e => ⟨?_, ((ok e).2.set e4 _).up⟩⟩
    · obtain ⟨ca, cb, kv, rfl, hkv⟩ := cel
      rw [R_tree_maker_node]
      subst c1
      rcases hkv with rfl | ⟨i, j, rfl⟩ <;> simp only [Zaa,Zab,Zac,Zad,Zai,Zaj,Zak,Zas,Zay,Zaz,Zba,Zbc,Zbh,Zbi,Zbj,Zbk,Zbl,Zbm,Zbo,Zbp,Zbq,Zbt,Zbw,Zby,Zbz,Zcb,Zcf,Zcg,Zco,Zcp,Zct,Zcu,Zcv,Zcw,Zcx,Zcy,Zcz,List.set_cons_zero,List.set_cons_succ,List.getD_cons_zero,List.getD_cons_succ,Option.bind_some,Option.map_some,Zdd,Zde,Zdi,Zdj,Zdk,Zdl,Zds,Zdw,Zdy,Zdz,Zea,Zeb,Zee,Zel,Zeo,decide_true,decide_false,Bool.not_true,List.getElem?_cons_zero,List.getElem?_cons_succ,List.length_cons,List.length_nil,if_true,Nat.reduceAdd,Nat.reduceSub,Nat.reduceLeDiff,Int.reduceNeg,eq_self,and_self,List.length_cons,List.length_nil,List.replicate_succ,List.replicate_zero,List.cons_append,List.nil_append,aload,acells,getArr,part,eI,astore,putCells,List.all_cons,List.all_nil,cellOk,Bool.and_self,List.drop_zero,List.drop_succ_cons,List.take_succ_cons,List.take_zero,List.take_nil,List.cons_append,List.nil_append,List.set_cons_zero,q1,hbl,hll,hne0,hw0,hix,hir,hw1,hcut,Option.map_none,hsb,hgb,hgk,hss,hw2,c2,hap_get,hap_set,List.append_assoc,List.length_append,an_p,hc,e4,e4',resAll,resVals,resVal]
    · have hl0 : h.length < (h.set b (.arr 0 9 true [eMk g (.vsl ef (eIs ms.reverse)) (.int .i64 0) (.int .i64 (x.size + r.right.length)) yv]) ++ [AObj.arr 0 3 true [[.int .i64 0, .int .i64 0, .nilS]], .arr 0 5 true [eRule r]]).length := by simp
      exact ((ok e).1.setB hl0 _).mono _ (Nat.le_of_lt hl0) fun _ _ _ e => e
end Go.Proofs.Ytkimloceaihplaa.Ai
