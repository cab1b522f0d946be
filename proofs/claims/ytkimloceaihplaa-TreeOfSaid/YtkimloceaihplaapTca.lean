/- Trees made of their reductions by replacing the last leaf: the same as by recursion. No program in sight. -/
import Derived.Test.YtkimloceaihplaapTba
import Derived.Test.YtkimloceaihplaapTbb
namespace Go.Proofs.Ytkimloceaihplaa.Ai
open Go
set_option linter.unusedVariables false
set_option linter.unusedSimpArgs false

def byT (g : GramD) (k : Nat) : T :=
  match g.rules[k]? with
  | some r => .node (-1 - r.left) k (r.right.map leafT)
  | none => zeroT
def leftOf (g : GramD) (k : Nat) : Int :=
  match g.rules[k]? with
  | some r => r.left
  | none => 0
def lenOf (g : GramD) (k : Nat) : Int :=
  match g.rules[k]? with
  | some r => r.right.length
  | none => 0
mutual
/-- The last leaf that is no terminal, replaced: 0 if there is none, 1 if it does not fit, 2 if it is done. -/
def lastT (g : GramD) (k : Nat) : T → T × Int
  | .node s r ks =>
    if r = -1 then
      if 0 ≤ s then (.node s r ks, 0) else if s ≠ -1 - leftOf g k then (.node s r ks, 1) else (byT g k, 2)
    else if (lastTs g k ks).2 = 0 then (.node s r ks, 0) else (.node s r (lastTs g k ks).1, (lastTs g k ks).2)
def lastTs (g : GramD) (k : Nat) : List T → List T × Int
  | [] => ([], 0)
  | t :: ks => if (lastTs g k ks).2 = 0 then ((lastT g k t).1 :: ks, (lastT g k t).2) else (t :: (lastTs g k ks).1, (lastTs g k ks).2)
end

/-- All moves, as long as one can. -/
def rewr (g : GramD) : List Int → T → Int → (T × Int) × (List Int × Int)
  | [], t, sz => ((t, 0), ([], sz))
  | k :: mv, t, sz =>
    if (lastT g k.toNat t).2 = 0 then ((t, 0), (k :: mv, sz))
    else if (lastT g k.toNat t).2 = 1 then ((t, 3), (k :: mv, sz))
    else if 65536 < sz + lenOf g k.toNat then ((t, 4), (k :: mv, sz))
    else rewr g mv (lastT g k.toNat t).1 (sz + lenOf g k.toNat)

mutual
theorem lastT_whole (g : GramD) (k : Nat) : ∀ t, WholeT t → (lastT g k t).2 = 0
  | .node s r ks, h => by
    by_cases hr : r = -1
    · have h0 : 0 ≤ s := h s (by simp [yieldT, hr])
      simp [lastT, hr, h0]
    · have h1 := lastTs_whole g k ks (fun t ht => h.kid ht)
      simp [lastT, hr, h1]
theorem lastTs_whole (g : GramD) (k : Nat) : ∀ ks, (∀ t ∈ ks, WholeT t) → (lastTs g k ks).2 = 0
  | [], _ => rfl
  | t :: ks, h => by
    have h1 := lastTs_whole g k ks (fun u hu => h u (List.mem_cons_of_mem _ hu))
    have h2 := lastT_whole g k t (h t (List.mem_cons_self ..))
    simp [lastTs, h1, h2]
end
theorem lastT_range (g : GramD) (k : Nat) : ∀ t, (lastT g k t).2 = 0 ∨ (lastT g k t).2 = 1 ∨ (lastT g k t).2 = 2 := by
  intro t
  induction t using T.ind with
  | _ s r ks ih =>
  by_cases hr : r = -1
  · simp only [lastT,if_pos hr]
    split
    · exact .inl rfl
    · split
      · exact .inr (.inl rfl)
      · exact .inr (.inr rfl)
  · have h : (lastTs g k ks).2 = 0 ∨ (lastTs g k ks).2 = 1 ∨ (lastTs g k ks).2 = 2 := by
      clear hr
      induction ks with
      | nil => exact .inl rfl
      | cons a l im =>
        have h1 := im fun t ht => ih t (List.mem_cons_of_mem _ ht)
        have h2 := ih a (List.mem_cons_self ..)
        simp only [lastTs]
        split
        · exact h2
        · exact h1
    simp only [lastT,if_neg hr]
    split
    · exact .inl rfl
    · exact h

/-- In the last place but those that are done. -/
theorem lastTs_focus (g : GramD) (k : Nat) (t : T) (acc : List T) (ha : ∀ u ∈ acc, WholeT u) (ht : (lastT g k t).2 ≠ 0) : ∀ pre : List T, lastTs g k (pre ++ t :: acc) = (pre ++ (lastT g k t).1 :: acc, (lastT g k t).2)
  | [] => by
    have := lastTs_whole g k acc ha
    simp [lastTs, this]
  | p :: pre => by
    have h := lastTs_focus g k t acc ha ht pre
    simp only [List.cons_append,lastTs,h,if_neg ht]

theorem rewr_focus (g : GramD) (S R : Int) (hR : R ≠ -1) (pre acc : List T) : ∀ (mv : List Int) (t : T) (sz : Int), (mv = [] ∨ ∀ u ∈ acc, WholeT u) →
    rewr g mv (.node S R (pre ++ t :: acc)) sz = if (rewr g mv t sz).1.2 ≠ 0 then (((rewr g mv (.node S R (pre ++ t :: acc)) sz).1.1, (rewr g mv t sz).1.2), (rewr g mv t sz).2)
      else rewr g (rewr g mv t sz).2.1 (.node S R (pre ++ (rewr g mv t sz).1.1 :: acc)) (rewr g mv t sz).2.2
  | [], t, sz, _ => by simp [rewr]
  | k :: mv, t, sz, h => by
    have ha : ∀ u ∈ acc, WholeT u := by
      rcases h with h | h
      · cases h
      · exact h
    by_cases h0 : (lastT g k.toNat t).2 = 0
    · have e : rewr g (k :: mv) t sz = ((t, 0), (k :: mv, sz)) := by simp [rewr, h0]
      rw [e]
      simp
    · have hl := lastTs_focus g k.toNat t acc ha h0 pre
      have hn : lastT g k.toNat (.node S R (pre ++ t :: acc)) = (.node S R (pre ++ (lastT g k.toNat t).1 :: acc), (lastT g k.toNat t).2) := by
        simp only [lastT,if_neg hR,hl,if_neg h0]
      by_cases h1 : (lastT g k.toNat t).2 = 1
      · simp [rewr, hn, h1]
      · by_cases h2 : 65536 < sz + lenOf g k.toNat
        · simp [rewr, hn, h0, h1, h2]
        · have ih := rewr_focus g S R hR pre acc mv (lastT g k.toNat t).1 (sz + lenOf g k.toNat) (.inr ha)
          simp only [rewr,hn,if_neg h0,if_neg h1,if_neg h2]
          exact ih
end Go.Proofs.Ytkimloceaihplaa.Ai
namespace Go.Proofs.Ytkimloceaihplaa.Ai
open Go
set_option linter.unusedVariables false
set_option linter.unusedSimpArgs false

theorem rewr_suffix (g : GramD) : ∀ (mv : List Int) (t : T) (sz : Int), ∃ p, mv = p ++ (rewr g mv t sz).2.1
  | [], t, sz => ⟨[], rfl⟩
  | k :: mv, t, sz => by
    simp only [rewr]
    split
    · exact ⟨[], rfl⟩
    · split
      · exact ⟨[], rfl⟩
      · split
        · exact ⟨[], rfl⟩
        · obtain ⟨p, hp⟩ := rewr_suffix g mv (lastT g k.toNat t).1 (sz + lenOf g k.toNat)
          exact ⟨k :: p, by rw [List.cons_append, ← hp]⟩
theorem rewr_whole (g : GramD) {t : T} (h : WholeT t) (mv : List Int) (sz : Int) : rewr g mv t sz = ((t, 0), (mv, sz)) := by
  cases mv with
  | nil => rfl
  | cons k mv => simp [rewr, lastT_whole g k.toNat t h]
theorem whole_node {s r : Int} {ks : List T} (hr : r ≠ -1) (h : ∀ t ∈ ks, WholeT t) : WholeT (.node s r ks) := by
  intro x hx
  simp only [yieldT,if_neg hr,List.append_nil] at hx
  induction ks with
  | nil => cases hx
  | cons a l ih =>
    simp only [yieldTs,List.mem_append] at hx
    rcases hx with hx | hx
    · exact h a (List.mem_cons_self ..) x hx
    · exact ih (fun t ht => h t (List.mem_cons_of_mem _ ht)) hx
theorem whole_leaf {s : Int} (h : 0 ≤ s) : WholeT (leafT s) := by
  intro x hx
  simp [leafT, yieldT, yieldTs] at hx
  omega

def MovesIn (g : GramD) (mv : List Int) : Prop := ∀ k ∈ mv, ∃ r, g.rules[k.toNat]? = some r
theorem MovesIn.suffix {g : GramD} {mv p q : List Int} (h : MovesIn g mv) (e : mv = p ++ q) : MovesIn g q := fun k hk => h k (by rw [e]; simp [hk])

/-- What recursion and rewriting have in common. -/
structure Agree (g : GramD) (a : (T × Int) × MS) (R : (T × Int) × (List Int × Int)) (y : List Int) : Prop where
  err : a.1.2 = R.1.2
  val : R.1.2 = 0 → a = ((R.1.1, 0), ⟨R.2.1, R.2.2, y ++ (yieldT R.1.1).reverse⟩)
  done : R.1.2 = 0 → R.2.1 = [] ∨ WholeT R.1.1

theorem kids_rewr {g : GramD} {n : Nat} (ih : ∀ s mv sz y, mv.length ≤ n → MovesIn g mv → Agree g (mkNode g n s ⟨mv, sz, y⟩) (rewr g mv (leafT s) sz) y) (S R0 : Int) (hR : R0 ≠ -1) : ∀ (m : Nat) (pre : List Int) (acc : List T) (mv : List Int) (sz : Int) (y : List Int), pre.length = m →
    (mv = [] ∨ ∀ u ∈ acc, WholeT u) → mv.length ≤ n → MovesIn g mv →
    (kidsGo (mkNode g n) pre.reverse acc ⟨mv, sz, y⟩).1.2 = (rewr g mv (.node S R0 (pre.map leafT ++ acc)) sz).1.2 ∧
    ((rewr g mv (.node S R0 (pre.map leafT ++ acc)) sz).1.2 = 0 → ∃ new, kidsGo (mkNode g n) pre.reverse acc ⟨mv, sz, y⟩ = ((new ++ acc, 0), ⟨(rewr g mv (.node S R0 (pre.map leafT ++ acc)) sz).2.1, (rewr g mv (.node S R0 (pre.map leafT ++ acc)) sz).2.2, y ++ (yieldTs new).reverse⟩) ∧
      (rewr g mv (.node S R0 (pre.map leafT ++ acc)) sz).1.1 = .node S R0 (new ++ acc) ∧ ((rewr g mv (.node S R0 (pre.map leafT ++ acc)) sz).2.1 = [] ∨ ∀ u ∈ new ++ acc, WholeT u)) := by
  intro m
  induction m with
  | zero =>
    intro pre acc mv sz y hm ha hn hi
    have : pre = [] := List.length_eq_zero_iff.1 hm
    subst this
    have e : rewr g mv (.node S R0 acc) sz = ((.node S R0 acc, 0), (mv, sz)) := by
      rcases ha with rfl | ha
      · rfl
      · exact rewr_whole g (whole_node hR ha) mv sz
    simp only [List.map_nil,List.nil_append,List.reverse_nil,kidsGo,e]
    exact ⟨trivial, fun _ => ⟨[], by simp [yieldTs], rfl, ha⟩⟩
  | succ m im =>
    intro pre acc mv sz y hm ha hn hi
    have hne : pre ≠ [] := fun e => by subst e; simp at hm
    obtain ⟨l, s, rfl⟩ : ∃ l s, pre = l ++ [s] := ⟨pre.dropLast, pre.getLast hne, (List.dropLast_concat_getLast hne).symm⟩
    have hlm : l.length = m := by simpa using hm
    have A := ih s mv sz y hn hi
    have e1 : (l ++ [s]).map leafT ++ acc = l.map leafT ++ leafT s :: acc := by simp
    have e2 : (l ++ [s]).reverse = s :: l.reverse := by simp
    rw [e1, e2]
    have F := rewr_focus g S R0 hR (l.map leafT) acc mv (leafT s) sz ha
    simp only [kidsGo]
    by_cases q : (rewr g mv (leafT s) sz).1.2 = 0
    case neg =>
      rw [if_pos q] at F
      rw [A.err, if_pos q, F]
      exact ⟨rfl, fun h => absurd h q⟩
    case pos =>
      rw [if_neg (fun h => h q)] at F
      rw [F, A.val q, if_neg (fun h => h rfl)]
      obtain ⟨p, hp⟩ := rewr_suffix g mv (leafT s) sz
      have hd : (rewr g mv (leafT s) sz).2.1 = [] ∨ ∀ u ∈ (rewr g mv (leafT s) sz).1.1 :: acc, WholeT u := by
        rcases A.done q with h | h
        · exact .inl h
        · rcases ha with h' | h'
          · exact .inl (by subst h'; rfl)
          · exact .inr fun u hu => by
              rcases List.mem_cons.1 hu with rfl | hu
              · exact h
              · exact h' u hu
      obtain ⟨h1, h2⟩ := im l ((rewr g mv (leafT s) sz).1.1 :: acc) (rewr g mv (leafT s) sz).2.1 (rewr g mv (leafT s) sz).2.2 (y ++ (yieldT (rewr g mv (leafT s) sz).1.1).reverse) hlm hd
        (by have := congrArg List.length hp; rw [List.length_append] at this; omega) (hi.suffix hp)
      refine ⟨h1, fun h => ?_⟩
      obtain ⟨new, k1, k2, k3⟩ := h2 h
      refine ⟨new ++ [(rewr g mv (leafT s) sz).1.1], ?_, by rw [k2]; simp, ?_⟩
      · rw [k1]
        simp [yieldTs_app, yieldTs]
      · rcases k3 with k3 | k3
        · exact .inl k3
        · exact .inr (by simpa using k3)

theorem mk_rewr (g : GramD) : ∀ n s mv sz y, mv.length ≤ n → MovesIn g mv → Agree g (mkNode g n s ⟨mv, sz, y⟩) (rewr g mv (leafT s) sz) y := by
  intro n
  induction n with
  | zero =>
    intro s mv sz y hn hi
    have : mv = [] := List.length_eq_zero_iff.1 (by omega)
    subst this
    exact ⟨rfl, fun _ => by simp [mkNode, rewr, leafT, yieldT, yieldTs], fun _ => .inl rfl⟩
  | succ n ih =>
    intro s mv sz y hn hi
    by_cases h0 : 0 ≤ s
    case pos =>
      rw [rewr_whole g (whole_leaf h0), mkNode_leaf g _ s h0]
      exact ⟨rfl, fun _ => by simp [leafT, yieldT, yieldTs], fun _ => .inr (whole_leaf h0)⟩
    case neg =>
    cases mv with
    | nil => exact ⟨by simp only [mkNode,if_neg h0,rewr], fun _ => by simp [mkNode, h0, rewr, leafT, yieldT, yieldTs], fun _ => .inl rfl⟩
    | cons k mv =>
      obtain ⟨r, hr⟩ := hi k (List.mem_cons_self ..)
      have e1 : leftOf g k.toNat = r.left := by simp [leftOf, hr]
      have e2 : lenOf g k.toNat = r.right.length := by simp [lenOf, hr]
      have e3 : byT g k.toNat = .node (-1 - r.left) k.toNat (r.right.map leafT) := by simp [byT, hr]
      have em : mkNode g (n + 1) s ⟨k :: mv, sz, y⟩ = mkStep g (mkNode g n) s k mv ⟨k :: mv, sz, y⟩ := by simp only [mkNode,if_neg h0]
      rw [em]
      unfold mkStep
      simp only [hr]
      by_cases h1 : s = -1 - r.left
      case neg =>
        have el : lastT g k.toNat (leafT s) = (leafT s, 1) := by simp [lastT, leafT, h0, e1, h1]
        rw [if_pos h1]
        have er : rewr g (k :: mv) (leafT s) sz = ((leafT s, 3), (k :: mv, sz)) := by simp [rewr, el]
        rw [er]
        exact ⟨rfl, fun h => by simp at h, fun h => by simp at h⟩
      case pos =>
        have el : lastT g k.toNat (leafT s) = (byT g k.toNat, 2) := by
          unfold leafT
          simp only [lastT,if_true,if_neg h0,e1,if_neg (show ¬ (s ≠ -1 - r.left) from fun h => h h1)]
        rw [if_neg (fun h => h h1)]
        by_cases h2 : 65536 < sz + r.right.length
        case pos =>
          have er : rewr g (k :: mv) (leafT s) sz = ((leafT s, 4), (k :: mv, sz)) := by simp [rewr, el, e2, h2]
          rw [if_pos h2, er]
          exact ⟨rfl, fun h => by simp at h, fun h => by simp at h⟩
        case neg =>
          have er : rewr g (k :: mv) (leafT s) sz = rewr g mv (.node (-1 - r.left) k.toNat (r.right.map leafT)) (sz + r.right.length) := by simp [rewr, el, e2, e3, h2]
          rw [if_neg h2, er]
          obtain ⟨k1, k2⟩ := kids_rewr ih (-1 - r.left) (k.toNat : Int) (by omega) r.right.length r.right [] mv (sz + r.right.length) y rfl (.inr fun u hu => by cases hu) (by simpa using hn) (hi.suffix (p := [k]) rfl)
          simp only [List.append_nil] at k1 k2
          unfold kidsOf
          simp only [hr]
          by_cases q : (rewr g mv (.node (-1 - r.left) k.toNat (r.right.map leafT)) (sz + r.right.length)).1.2 = 0
          case neg =>
            rw [k1, if_pos q]
            exact ⟨rfl, fun h => absurd h q, fun h => absurd h q⟩
          case pos =>
            obtain ⟨new, j1, j2, j3⟩ := k2 q
            rw [j1, if_neg (fun h => h rfl)]
            have hk : ((k.toNat : Nat) : Int) ≠ -1 := by omega
            refine ⟨q.symm, fun _ => ?_, fun _ => ?_⟩
            · rw [j2]
              simp only [yieldT,if_neg hk,List.append_nil]
            · rw [j2]
              rcases j3 with j3 | j3
              · exact .inl j3
              · exact .inr (whole_node hk j3)
end Go.Proofs.Ytkimloceaihplaa.Ai
namespace Go.Proofs.Ytkimloceaihplaa.Ai
open Go Go.Proofs
set_option linter.unusedVariables false
set_option linter.unusedSimpArgs false
set_option maxRecDepth 10000
set_option maxHeartbeats 4000000

theorem Enc.flat {t : T} {c : List AV} (h : Enc t c) : c.length = 3 ∧ c.all cellOk = true ∧ c.all pure1 = true := by
  obtain ⟨s, r, ks⟩ := t
  obtain ⟨kv, rfl, hk⟩ := h
  rcases hk with ⟨_, rfl⟩ | ⟨e, rows, rfl, _⟩ <;> exact ⟨rfl, rfl, rfl⟩
theorem Encs.app : ∀ {a b : List T} {x y : List (List AV)}, Encs a x → Encs b y → Encs (a ++ b) (x ++ y)
  | [], b, x, y, h1, h2 => by cases h1; exact h2
  | t :: a, b, x, y, ⟨c, rest, e, h1, h3⟩, h2 => by subst e; exact ⟨c, rest ++ y, rfl, h1, h3.app h2⟩
theorem Encs.all : ∀ {a : List T} {x : List (List AV)}, Encs a x → x.all (fun c => c.length == 3 && c.all cellOk) = true
  | [], x, h => by cases h; rfl
  | t :: a, x, ⟨c, rest, e, h1, h3⟩ => by
    subst e
    obtain ⟨q1, q2, _⟩ := h1.flat
    simp only [List.all_cons,h3.all,q1,q2]; rfl

/-- A slice of trees that has been made by append alone. -/
def OwnT (ks : List T) (v : AV) (h : AHeap) : Prop := (ks = [] ∧ v = .nilS) ∨ (ks ≠ [] ∧ ∃ i ver rows, v = .hsl i ver 0 ks.length none ∧ h[i]? = some (.arr ver 3 false rows) ∧ Encs ks rows)
def KeepT (h h' : AHeap) : Prop := ∀ (j : Nat) (o : AObj), h[j]? = some o → (∀ ver l, o ≠ .arr ver 3 false l) → h'[j]? = some o
theorem KeepT.refl (h : AHeap) : KeepT h h := fun _ _ e _ => e
theorem KeepT.trans {a b c : AHeap} (h : KeepT a b) (k : KeepT b c) : KeepT a c := fun j o e hn => k j o (h j o e hn) hn
theorem OwnT.nil (h : AHeap) : OwnT [] .nilS h := .inl ⟨rfl, rfl⟩
theorem OwnT.app {ks : List T} {v : AV} {h : AHeap} (ho : OwnT ks v h) (l : AHeap) : OwnT ks v (h ++ l) := by
  rcases ho with ⟨h1, h2⟩ | ⟨h1, i, ver, rows, h2, h3, h4⟩
  · exact .inl ⟨h1, h2⟩
  · exact .inr ⟨h1, i, ver, rows, h2, get_app h3 l, h4⟩
theorem OwnT.set {ks : List T} {v : AV} {h : AHeap} (ho : OwnT ks v h) {j : Nat} {o : AObj} (hj : h[j]? = some o) (hn : ∀ ver l, o ≠ .arr ver 3 false l) (o' : AObj) : OwnT ks v (h.set j o') := by
  rcases ho with ⟨h1, h2⟩ | ⟨h1, i, ver, rows, h2, h3, h4⟩
  · exact .inl ⟨h1, h2⟩
  · exact .inr ⟨h1, i, ver, rows, h2, get_set_ne h3 (fun e => by subst e; rw [h3] at hj; cases hj; exact hn _ _ rfl), h4⟩
theorem OwnT.append {ks : List T} {t : T} {v : AV} {c : List AV} {h : AHeap} (e : Bool) (ho : OwnT ks v h) (hc : Enc t c) (bytes : Nat) (hb : bytes ≤ 1000) (hl : ks.length ≤ 1000000) : ∃ i ver h', aapp h 3 bytes v (.vsl e [c]) = some (.hsl i ver 0 (ks.length + 1) none, h') ∧ OwnT (ks ++ [t]) (.hsl i ver 0 (ks.length + 1) none) h' ∧ KeepT h h' := by
  obtain ⟨q1, q2, _⟩ := hc.flat
  have hel : elemsOf h 3 (.vsl e [c]) = some [c] := by simp [elemsOf, q1]
  have hE : Encs [t] [c] := ⟨c, [], rfl, hc, rfl⟩
  unfold aapp
  rw [hel]
  simp only [Option.elim_some,aappend,List.length_cons,List.length_nil]
  rcases ho with ⟨rfl, rfl⟩ | ⟨h1, i, ver, rows, rfl, h3, h4⟩
  · have hcd : [c].length * (bytes + 1) ≤ 68719476736 ∧ [c].all (fun c => c.length == 3 && c.all cellOk) = true := ⟨by simp; omega, hE.all⟩
    refine ⟨h.length, 0, h ++ [.arr 0 3 false [c]], by simp only [aappendN,freshArr]; rw [if_pos hcd]; rfl, .inr ⟨by simp, h.length, 0, [c], by simp, by simp, hE⟩, fun j o e _ => get_app e _⟩
  · have hrl := h4.len
    have hne : ¬ (0 + ks.length + [c].length ≤ rows.length ∧ inRoom (ks.length + [c].length) none = true) := by
      simp only [List.length_cons,List.length_nil]; omega
    have hc1 : True ∧ 0 + ks.length ≤ rows.length := ⟨trivial, by omega⟩
    have htk : (List.drop 0 rows).take ks.length = rows := by rw [List.drop_zero]; exact List.take_of_length_le (by omega)
    have hall := (h4.app hE).all
    have hcd : (rows ++ [c]).length * (bytes + 1) ≤ 68719476736 ∧ (rows ++ [c]).all (fun c => c.length == 3 && c.all cellOk) = true := by
      refine ⟨?_, hall⟩
      have e1 : (rows ++ [c]).length = ks.length + 1 := by simp [hrl]
      rw [e1]
      have : (ks.length + 1) * (bytes + 1) ≤ 1000001 * 1001 := Nat.mul_le_mul (by omega) (by omega)
      omega
    have hlen : (rows ++ [c]).length = ks.length + 1 := by simp [hrl]
    refine ⟨i, ver + 1, h.set i (.arr (ver + 1) 3 false (rows ++ [c])), ?_, .inr ⟨by simp, i, ver + 1, rows ++ [c], by simp, get_set_eq h3, h4.app hE⟩, fun j o e hn => ?_⟩
    · simp only [aappendN,getArr,h3,if_true]
      rw [if_pos hc1, if_neg hne]
      simp only [htk]
      rw [if_pos hcd, hlen]
      rfl
    · exact get_set_ne e (fun he => by subst he; rw [h3] at e; cases e; exact hn _ _ rfl)
end Go.Proofs.Ytkimloceaihplaa.Ai
namespace Go.Proofs.Ytkimloceaihplaa.Ai
open Go Go.Proofs
set_option linter.unusedVariables false
set_option linter.unusedSimpArgs false
set_option maxRecDepth 10000
set_option maxHeartbeats 4000000

theorem lit_tree (h : AHeap) (a b : Int) (kv : AV) (hk : kv = .nilS ∨ ∃ e rows, kv = .vsl e rows) : abs0 h false 3 1 [.int .i64 0, .int .i64 0, .nilS] [(0, .agg [.int .i64 a, .int .i64 b, kv])] = some (.vsl true [[.int .i64 a, .int .i64 b, kv]], h) := by
  rcases hk with rfl | ⟨e, rows, rfl⟩ <;> simp [abs0, fillCells, flatParts, putCells, cellsOf, chop, pure1]

theorem r_leaf (s : Int) (H : AHeap) : lim G0.cfg (.func 79) [.int .i64 s] H = some (.agg [.int .i64 s, .int .i64 (-1), .nilS], H) := by
  refine lim_flat rfl rfl P_r20_leaf 1 (fun h => fz_1 rfl) ?_ (fun _ => rfl) H
  rw [R_r20_leaf]
  simp only [Zab,Zac,Zai,Zaj,Zak,Zay,Zba,Zbi,Zbk,Zbm,Zbp,Zcl,Zct,Zcu,Zcv,Zcw,Zcx,List.set_cons_zero,List.set_cons_succ,List.getD_cons_zero,List.getD_cons_succ,Option.bind_some,Option.map_some,Zdz,Zea,Zeb,List.getElem?_cons_zero,List.length_cons,List.length_nil,if_true,Nat.reduceAdd,Nat.reduceSub,Nat.reduceLeDiff,Int.reduceNeg,eq_self,and_self,true_and,List.length_cons,List.length_nil,List.replicate_succ,List.replicate_zero,List.cons_append,List.nil_append,aload,acells,getArr,part,astore,putCells,List.all_cons,List.all_nil,cellOk,Bool.and_self,List.drop_zero,List.drop_succ_cons,List.take_succ_cons,List.take_zero,List.take_nil,List.cons_append,List.nil_append,List.set_cons_zero,afill,evp,fillCells,Nat.reduceLT,resAll,resVals,resVal,Option.some.injEq,Prod.mk.injEq,true_and,exists_eq']
theorem enc_leaf (s : Int) : Enc (leafT s) [.int .i64 s, .int .i64 (-1), .nilS] := ⟨.nilS, rfl, .inl ⟨rfl, rfl⟩⟩

theorem mapO_c {α β : Type} {f : α → Option β} {a : α} {l : List α} {x : β} {y : List β} (h1 : f a = some x) (h2 : mapO f l = some y) : mapO f (a :: l) = some (x :: y) := by simp only [mapO,h1,h2]
/-- What lies behind a list made by append. -/
theorem OwnT.freeze {ks : List T} {v : AV} {h : AHeap} (ho : OwnT ks v h) {d : Nat} : ∃ c x, Ai.freeze h (d + 2) v = some (x, c) ∧ ((ks = [] ∧ x = .nilS) ∨ ∃ e rows, x = .vsl e rows ∧ Encs ks rows) := by
  rcases ho with ⟨rfl, rfl⟩ | ⟨h1, i, ver, rows, rfl, h3, h4⟩
  · exact ⟨true, .nilS, rfl, .inl ⟨rfl, rfl⟩⟩
  · have hg : getArr h i ver = some (3, false, rows) := by simp only [getArr,h3,if_true]
    have hm : ∀ (ks : List T) (rows : List (List AV)), Encs ks rows → ∃ q, mapO (mapO (Ai.freeze h (d + 1))) rows = some q ∧ q.map (·.map (·.1)) = rows := by
      intro ks
      induction ks with
      | nil => intro rows hr; cases hr; exact ⟨[], rfl, rfl⟩
      | cons t ks ih =>
        intro rows hr
        obtain ⟨c, rest, rfl, hc, hr⟩ := hr
        obtain ⟨q, e1, e2⟩ := ih rest hr
        obtain ⟨s, r, kk⟩ := t
        obtain ⟨kv, rfl, _, _, _, _, hf⟩ := hc.open
        have e3 : mapO (Ai.freeze h (d + 1)) [.int .i64 s, .int .i64 r, kv] = some [(.int .i64 s, true), (.int .i64 r, true), (kv, true)] := mapO_3 rfl rfl (hf h d)
        exact ⟨_, mapO_c e3 e1, by simp [e2]⟩
    obtain ⟨q, e1, e2⟩ := hm ks rows h4
    have := freeze_hsl (c := none) (o := 0) (n := ks.length) hg (by have := h4.len; omega) (d := d + 1) (q := q) (by rw [List.drop_zero, List.take_of_length_le (by have := h4.len; omega)]; exact e1)
    exact ⟨false, _, this, .inr ⟨false, rows, by rw [e2], h4⟩⟩

theorem r_by {g : GramD} (hg : GramR g) {k : Nat} {r : RuleD} (hr : g.rules[k]? = some r) (hk : k < 9223372036854775807) : ∃ c, Enc (byT g k) c ∧ ∀ H, lim G0.cfg (.func 48) [.agg (eGram g), .int .i64 k] H = some (.agg c, H) := by
  obtain ⟨r1, r2, r3⟩ := hg.rule hr
  have hrl := (List.getElem?_eq_some_iff.1 hr).1
  have hrg : g.rules[k] = r := (List.getElem?_eq_some_iff.1 hr).2
  have hir := fun h => ix_map eRule h 5 false g.rules .i64 k hrl rfl
  simp only [hrg] at hir
  have hw1 : IntKind.i64.wrap (-1 - r.left) = -1 - r.left := w64 (by omega) (by omega)
  have loop : ∀ (d i m : Nat) (v : AV) (h : AHeap), r.right.length = i + d → d < m → h[0]? = some (.arr 0 5 true [eGram g]) → h[1]? = some (.arr 0 3 true [[.int .i64 0, .int .i64 0, .nilS]]) → h[2]? = some (.arr 0 3 true [[.int .i64 (-1 - r.left), .int .i64 k, v]]) → OwnT ((r.right.take i).map leafT) v h → ∃ v' h',
      loopN (evalCode (lim G0.cfg) (r.right.length + 1) B_r20_by_0) m ⟨(.junk :: .int .i64 k :: .ptr 0 0 0 0 :: .junk :: .ptr 1 0 0 0 :: .ptr 2 0 0 0 :: .int .i64 i :: .junk::.junk::.junk::.junk::.junk::.junk::.junk::.junk::.junk::.junk::.junk::.junk::.junk::.junk::.junk::.junk::.junk::.junk::.junk::.junk::.junk::.junk::.junk::.junk::.junk::.junk::.junk::.junk::.junk::.junk::.junk::.junk::.junk::.junk::.junk::.junk :: []), h⟩ = some (.exit 0, ⟨(.junk::.junk::.junk::.junk :: .ptr 1 0 0 0 :: .ptr 2 0 0 0 :: .junk::.junk::.junk::.junk::.junk::.junk::.junk::.junk::.junk::.junk::.junk::.junk::.junk::.junk::.junk::.junk::.junk::.junk::.junk::.junk::.junk::.junk::.junk::.junk::.junk::.junk::.junk::.junk::.junk::.junk::.junk::.junk::.junk::.junk::.junk::.junk::.junk :: []), h'⟩) ∧ h'[1]? = some (.arr 0 3 true [[.int .i64 0, .int .i64 0, .nilS]]) ∧ h'[2]? = some (.arr 0 3 true [[.int .i64 (-1 - r.left), .int .i64 k, v']]) ∧ OwnT (r.right.map leafT) v' h' := by
    intro d
    induction d with
    | zero =>
      intro i m v h h1 h2 e0 e1 e2 ho
      obtain ⟨m, rfl⟩ : ∃ q, m = q + 1 := ⟨m - 1, by omega⟩
      have h5 : ¬ ((i : Int) < r.right.length) := by omega
      rw [List.take_of_length_le (by omega)] at ho
      refine ⟨v, h, ?_, e1, e2, ho⟩
      simp only [loop_e,EB_r20_by_0,Zab,Zac,Zad,Zag,Zah,Zaj,Zak,Zal,Zas,Zav,Zay,Zbi,Zbk,Zbo,Zbq,Zby,Zcb,Zcg,Zcu,Zcw,Zda,Zdb,Zdc,List.set_cons_zero,List.set_cons_succ,List.getD_cons_zero,List.getD_cons_succ,Option.bind_some,Zdg,Zds,Zdw,Zdx,Zdy,Zeo,decide_false,List.getElem?_cons_zero,List.length_cons,List.length_nil,if_true,Nat.reduceAdd,Nat.reduceLeDiff,eq_self,aload,acells,getArr,part,List.drop_zero,List.drop_succ_cons,List.take_succ_cons,List.take_zero,List.set_cons_zero,e0,hir,h5]
    | succ d ih =>
      intro i m v h h1 h2 e0 e1 e2 ho
      obtain ⟨m, rfl⟩ : ∃ q, m = q + 1 := ⟨m - 1, by omega⟩
      have h5 : i < r.right.length := by omega
      have h5' : (i : Int) < r.right.length := by omega
      have hw := w64s (n := i) (by omega)
      have xx := fun h => ix_eIs h false r.right .i64 i h5
      have hl := r_leaf r.right[i]
      obtain ⟨j, ver, h', ea, oo, kk⟩ := ho.append true (enc_leaf r.right[i]) 40 (by omega) (by simp; omega)
      have hlen : ((r.right.take i).map leafT).length = i := by simp; omega
      rw [hlen] at ea oo
      have f0 := kk 0 _ e0 (fun _ _ e => by cases e)
      have f1 := kk 1 _ e1 (fun _ _ e => by cases e)
      have f2 := kk 2 _ e2 (fun _ _ e => by cases e)
      have e3 : (r.right.take (i + 1)).map leafT = (r.right.take i).map leafT ++ [leafT r.right[i]] := by
        rw [List.take_succ_eq_append_getElem h5, List.map_append]; rfl
      obtain ⟨v', h'', e, g1, g2, g3⟩ := ih (i + 1) m (.hsl j ver 0 (i + 1) none) (h'.set 2 (.arr 0 3 true [[.int .i64 (-1 - r.left), .int .i64 k, .hsl j ver 0 (i + 1) none]])) (by omega) (by omega) (get_set_ne f0 (by omega)) (get_set_ne f1 (by omega)) (get_set_eq f2) (by rw [e3]; exact oo.set f2 (fun _ _ e => by cases e) _)
      refine ⟨v', h'', ?_, g1, g2, g3⟩
      rw [← e]
      have hlt := fun h => lit_tree h r.right[i] (-1) .nilS (.inl rfl)
      simp only [loop_e,EB_r20_by_0,Zaa,Zab,Zac,Zad,Zae,Zag,Zaj,Zak,Zan,Zar,Zau,Zay,Zaz,Zba,Zbi,Zbk,Zbo,Zbp,Zbq,Zby,Zcb,Zcg,Zci,Zcm,Zco,Zcp,Zcu,Zcv,Zcw,Zcx,Zcy,Zcz,Zda,Zdb,Zdc,List.set_cons_zero,List.set_cons_succ,List.getD_cons_zero,List.getD_cons_succ,Option.bind_some,Zdd,Zdg,Zds,Zdw,Zdx,Zdy,Zef,Zeo,decide_true,List.getElem?_cons_zero,List.length_cons,List.length_nil,if_true,Nat.reduceAdd,Nat.reduceLeDiff,Int.reduceNeg,eq_self,and_self,aload,acells,getArr,part,eI,astore,putCells,List.all_cons,List.all_nil,cellOk,Bool.and_self,List.drop_zero,List.drop_succ_cons,List.take_succ_cons,List.take_zero,List.take_nil,List.cons_append,List.nil_append,List.set_cons_zero,e0,hir,h5',xx,hl,ev2,hlt,e2,ea,f2,hw]
  obtain ⟨v', h', e, g1, g2, g3⟩ := loop r.right.length 0 (r.right.length + 1) .nilS [.arr 0 5 true [eGram g], .arr 0 3 true [[.int .i64 0, .int .i64 0, .nilS]], .arr 0 3 true [[.int .i64 (-1 - r.left), .int .i64 k, .nilS]]] (by omega) (by omega) rfl rfl rfl (OwnT.nil _)
  rw [z0] at e
  have g4 := g3.set g1 (fun _ _ e => by cases e) (.arr 0 3 true [[.int .i64 (-1 - r.left), .int .i64 k, v']])
  obtain ⟨cf, x, hf, hx⟩ := g4.freeze (d := 997)
  have hE : Enc (byT g k) [.int .i64 (-1 - r.left), .int .i64 k, x] := by
    simp only [byT,hr]
    exact ⟨x, rfl, hx⟩
  refine ⟨_, hE, fun H => ?_⟩
  have hv : (v' = .nilS ∨ ∃ i ver n, v' = .hsl i ver 0 n none) := by
    rcases g3 with ⟨_, h⟩ | ⟨_, i, ver, _, h, _⟩
    · exact .inl h
    · exact .inr ⟨i, ver, _, h⟩
  have g1' := get_set_eq (y := AObj.arr 0 3 true [[.int .i64 (-1 - r.left), .int .i64 k, v']]) g1
  have hrun : runFn (lim G0.cfg) (r.right.length + 1) A_r20_by [.agg (eGram g), .int .i64 k] [] = some (.agg [.int .i64 (-1 - r.left), .int .i64 k, v'], h'.set 1 (.arr 0 3 true [[.int .i64 (-1 - r.left), .int .i64 k, v']])) := by
    rw [R_r20_by]
    rcases hv with rfl | ⟨i, ver, n, rfl⟩ <;> simp only [Zab,Zac,Zae,Zaf,Zag,Zai,Zaj,Zak,Zap,Zat,Zay,Zaz,Zba,Zbi,Zbk,Zbm,Zbn,Zbo,Zbp,Zbq,Zby,Zcb,Zcl,Zcr,Zct,Zcu,Zcv,Zcw,Zcx,Zda,Zdb,Zdc,List.set_cons_zero,List.set_cons_succ,List.getD_cons_zero,List.getD_cons_succ,Option.bind_some,Option.map_some,Zde,Zdw,Zdx,Zdy,Zdz,Zea,Zeb,List.getElem?_cons_zero,List.getElem?_cons_succ,List.length_cons,List.length_nil,if_true,Nat.reduceAdd,Nat.reduceSub,Nat.reduceLeDiff,Int.reduceNeg,eq_self,and_self,List.length_cons,List.length_nil,List.replicate_succ,List.replicate_zero,List.cons_append,List.nil_append,aload,acells,getArr,part,astore,putCells,List.all_cons,List.all_nil,cellOk,Bool.and_self,List.drop_zero,List.drop_succ_cons,List.take_succ_cons,List.take_zero,List.take_nil,List.cons_append,List.nil_append,List.set_cons_zero,hir,hw1,afill,evp,fillCells,Nat.reduceLT,e,g1,g2,g1',resAll,resVals,resVal]
  have e1 : ∀ h : AHeap, freeze h 1000 (.agg [.int .i64 (-1 - r.left), .int .i64 k, v']) = (mapO (freeze h 999) [.int .i64 (-1 - r.left), .int .i64 k, v']).map fun l => (.agg (l.map (·.1)), l.all (·.2)) := fun h => rfl
  refine lim_at rfl rfl P_r20_by (r.right.length + 1) (fun h => fz_2 (fz_gram g h) rfl) hrun (c := true && (true && (cf && true))) ?_ H
  rw [e1, mapO_3 (rfl : freeze _ 999 (.int .i64 (-1 - r.left)) = some (.int .i64 (-1 - r.left), true)) (rfl : freeze _ 999 (.int .i64 (k : Int)) = some (.int .i64 (k : Int), true)) hf]
  rfl
end Go.Proofs.Ytkimloceaihplaa.Ai
namespace Go.Proofs.Ytkimloceaihplaa.Ai
open Go Go.Proofs
set_option linter.unusedVariables false
set_option linter.unusedSimpArgs false
set_option maxRecDepth 10000
set_option maxHeartbeats 4000000

mutual
theorem lastT_same (g : GramD) (k : Nat) : ∀ t, (lastT g k t).2 = 0 → (lastT g k t).1 = t
  | .node s r ks, h => by
    by_cases hr : r = -1
    · simp only [lastT,if_pos hr] at h ⊢
      split at h
      · rename_i q; rw [if_pos q]
      · split at h
        · simp at h
        · simp at h
    · simp only [lastT,if_neg hr] at h ⊢
      by_cases q : (lastTs g k ks).2 = 0
      · rw [if_pos q]
      · rw [if_neg q] at h; exact absurd h q
theorem lastTs_same (g : GramD) (k : Nat) : ∀ ks, (lastTs g k ks).2 = 0 → (lastTs g k ks).1 = ks
  | [], _ => rfl
  | t :: ks, h => by
    simp only [lastTs] at h ⊢
    by_cases q : (lastTs g k ks).2 = 0
    · rw [if_pos q] at h ⊢
      simp only at h ⊢
      rw [lastT_same g k t h]
    · rw [if_neg q] at h; exact absurd h q
end
theorem lastTs_app (g : GramD) (k : Nat) (t : T) : ∀ l : List T, lastTs g k (l ++ [t]) = if (lastT g k t).2 = 0 then ((lastTs g k l).1 ++ [t], (lastTs g k l).2) else (l ++ [(lastT g k t).1], (lastT g k t).2)
  | [] => by
    by_cases q : (lastT g k t).2 = 0
    · simp [lastTs, q, lastT_same g k t q]
    · simp [lastTs, q]
  | a :: l => by
    have ih := lastTs_app g k t l
    simp only [List.cons_append,lastTs,ih]
    by_cases q : (lastT g k t).2 = 0
    · simp only [if_pos q]
      by_cases q2 : (lastTs g k l).2 = 0
      · simp only [if_pos q2,lastTs_same g k l q2,List.cons_append]
      · simp only [if_neg q2,List.cons_append]
    · simp only [if_neg q]

theorem Enc.kv3 {t : T} {c : List AV} (h : Enc t c) : ∃ kv, c = [.int .i64 t.sym, .int .i64 t.rule, kv] ∧ (kv = .nilS ∨ ∃ e rows, kv = .vsl e rows) := by
  obtain ⟨s, r, ks⟩ := t
  obtain ⟨kv, rfl, h⟩ := h
  refine ⟨kv, rfl, ?_⟩
  rcases h with ⟨_, h⟩ | ⟨e, rows, h, _⟩
  · exact .inl h
  · exact .inr ⟨e, rows, h⟩

/-- The kids copied, one of them replaced. -/
theorem r_last_copy {s r how : Int} {ks : List T} {cv : AV} (ix : ∀ (j : Nat) (hj : j < ks.length), ∃ cj, Enc ks[j] cj ∧ ∀ h : AHeap, aindexAddr h 3 cv (.int .i64 j) = some (.vptr cj 0)) (ll : ∀ h : AHeap, alen h .slice cv = some (.int .i64 ks.length)) (hm : ks.length ≤ 1000000) (p : Nat) (t' : T) (c' : List AV) (hc' : Enc t' c') (b9 b11 N : Nat) (hb : b9 ≠ b11) (hb2 : 2 < b9 ∧ 2 < b11) :
    ∀ (d i m : Nat) (v : AV) (h : AHeap), ks.length = i + d → d < m → h[1]? = some (.arr 0 3 true [[.int .i64 s, .int .i64 r, cv]]) → h[2]? = some (.arr 0 3 true [[.int .i64 0, .int .i64 0, .nilS]]) → h[b9]? = some (.arr 0 3 true [c']) → h[b11]? = some (.arr 0 3 true [[.int .i64 s, .int .i64 r, v]]) → OwnT ((ks.set p t').take i) v h → ∃ v' h',
      loopN (evalCode (lim G0.cfg) N B_r20_last_1) m ⟨(.junk::.junk::.junk::.junk :: .ptr 1 0 0 0 :: .junk :: .ptr 2 0 0 0 :: .junk :: .int .i64 p :: .ptr b9 0 0 0 :: .int .i64 how :: .ptr b11 0 0 0 :: .int .i64 i :: .junk::.junk::.junk::.junk::.junk::.junk::.junk::.junk::.junk::.junk::.junk::.junk::.junk::.junk::.junk::.junk::.junk::.junk::.junk::.junk::.junk::.junk::.junk::.junk::.junk::.junk::.junk::.junk::.junk::.junk::.junk::.junk::.junk::.junk::.junk::.junk::.junk::.junk::.junk::.junk::.junk::.junk::.junk::.junk::.junk::.junk::.junk::.junk::.junk::.junk::.junk::.junk::.junk::.junk::.junk::.junk::.junk::.junk::.junk::.junk::.junk::.junk::.junk::.junk::.junk::.junk::.junk::.junk::.junk::.junk::.junk::.junk::.junk::.junk::.junk::.junk :: []), h⟩ = some (.exit 2, ⟨(.junk::.junk::.junk::.junk::.junk::.junk :: .ptr 2 0 0 0 :: .junk::.junk::.junk :: .int .i64 how :: .ptr b11 0 0 0 :: .junk::.junk::.junk::.junk::.junk::.junk::.junk::.junk::.junk::.junk::.junk::.junk::.junk::.junk::.junk::.junk::.junk::.junk::.junk::.junk::.junk::.junk::.junk::.junk::.junk::.junk::.junk::.junk::.junk::.junk::.junk::.junk::.junk::.junk::.junk::.junk::.junk::.junk::.junk::.junk::.junk::.junk::.junk::.junk::.junk::.junk::.junk::.junk::.junk::.junk::.junk::.junk::.junk::.junk::.junk::.junk::.junk::.junk::.junk::.junk::.junk::.junk::.junk::.junk::.junk::.junk::.junk::.junk::.junk::.junk::.junk::.junk::.junk::.junk::.junk::.junk::.junk :: []), h'⟩) ∧ h'[2]? = some (.arr 0 3 true [[.int .i64 0, .int .i64 0, .nilS]]) ∧ h'[b11]? = some (.arr 0 3 true [[.int .i64 s, .int .i64 r, v']]) ∧ OwnT (ks.set p t') v' h' := by
  intro d
  induction d with
  | zero =>
    intro i m v h h1 h2 e1 e2 e9 e11 ho
    obtain ⟨m, rfl⟩ : ∃ q, m = q + 1 := ⟨m - 1, by omega⟩
    have h5 : ¬ ((i : Int) < ks.length) := by omega
    rw [List.take_of_length_le (by simp; omega)] at ho
    refine ⟨v, h, ?_, e2, e11, ho⟩
    simp only [loop_e,EB_r20_last_1,Zab,Zac,Zad,Zag,Zah,Zaj,Zak,Zal,Zas,Zav,Zay,Zbi,Zbk,Zbo,Zbq,Zby,Zcg,Zcu,Zcw,Zda,Zdb,Zdc,List.set_cons_zero,List.set_cons_succ,List.getD_cons_zero,List.getD_cons_succ,Option.bind_some,Zdg,Zdw,Zdy,decide_false,List.getElem?_cons_zero,List.length_cons,List.length_nil,if_true,Nat.reduceAdd,Nat.reduceLeDiff,eq_self,aload,acells,getArr,part,List.drop_zero,List.drop_succ_cons,List.take_succ_cons,List.take_nil,List.set_cons_zero,e1,ll,h5]
  | succ d ih =>
    intro i m v h h1 h2 e1 e2 e9 e11 ho
    obtain ⟨m, rfl⟩ : ∃ q, m = q + 1 := ⟨m - 1, by omega⟩
    have h5 : i < ks.length := by omega
    have h5' : (i : Int) < ks.length := by omega
    have h6 : i < (ks.set p t').length := by simpa using h5
    have hw := w64s (n := i) (by omega)
    have e3 : (ks.set p t').take (i + 1) = (ks.set p t').take i ++ [(ks.set p t')[i]] := List.take_succ_eq_append_getElem h6
    have hlen : ((ks.set p t').take i).length = i := by simp; omega
    have go : ∀ (u : T) (c : List AV), Enc u c → (ks.set p t')[i] = u → ∃ j ver h', aapp h 3 40 v (.vsl true [c]) = some (.hsl j ver 0 (i + 1) none, h') ∧ h'[b11]? = some (.arr 0 3 true [[.int .i64 s, .int .i64 r, v]]) ∧ ∃ v' h'', loopN (evalCode (lim G0.cfg) N B_r20_last_1) m ⟨(.junk::.junk::.junk::.junk :: .ptr 1 0 0 0 :: .junk :: .ptr 2 0 0 0 :: .junk :: .int .i64 p :: .ptr b9 0 0 0 :: .int .i64 how :: .ptr b11 0 0 0 :: .int .i64 ((i + 1 : Nat) : Int) :: .junk::.junk::.junk::.junk::.junk::.junk::.junk::.junk::.junk::.junk::.junk::.junk::.junk::.junk::.junk::.junk::.junk::.junk::.junk::.junk::.junk::.junk::.junk::.junk::.junk::.junk::.junk::.junk::.junk::.junk::.junk::.junk::.junk::.junk::.junk::.junk::.junk::.junk::.junk::.junk::.junk::.junk::.junk::.junk::.junk::.junk::.junk::.junk::.junk::.junk::.junk::.junk::.junk::.junk::.junk::.junk::.junk::.junk::.junk::.junk::.junk::.junk::.junk::.junk::.junk::.junk::.junk::.junk::.junk::.junk::.junk::.junk::.junk::.junk::.junk::.junk :: []), h'.set b11 (.arr 0 3 true [[.int .i64 s, .int .i64 r, .hsl j ver 0 (i + 1) none]])⟩ = some (.exit 2, ⟨(.junk::.junk::.junk::.junk::.junk::.junk :: .ptr 2 0 0 0 :: .junk::.junk::.junk :: .int .i64 how :: .ptr b11 0 0 0 :: .junk::.junk::.junk::.junk::.junk::.junk::.junk::.junk::.junk::.junk::.junk::.junk::.junk::.junk::.junk::.junk::.junk::.junk::.junk::.junk::.junk::.junk::.junk::.junk::.junk::.junk::.junk::.junk::.junk::.junk::.junk::.junk::.junk::.junk::.junk::.junk::.junk::.junk::.junk::.junk::.junk::.junk::.junk::.junk::.junk::.junk::.junk::.junk::.junk::.junk::.junk::.junk::.junk::.junk::.junk::.junk::.junk::.junk::.junk::.junk::.junk::.junk::.junk::.junk::.junk::.junk::.junk::.junk::.junk::.junk::.junk::.junk::.junk::.junk::.junk::.junk::.junk :: []), h''⟩) ∧ h''[2]? = some (.arr 0 3 true [[.int .i64 0, .int .i64 0, .nilS]]) ∧ h''[b11]? = some (.arr 0 3 true [[.int .i64 s, .int .i64 r, v']]) ∧ OwnT (ks.set p t') v' h'' := by
      intro u c hu hs
      obtain ⟨j, ver, h', ea, oo, kk⟩ := ho.append true hu 40 (by omega) (by omega)
      rw [hlen] at ea oo
      have f1 := kk 1 _ e1 (fun _ _ e => by cases e)
      have f2 := kk 2 _ e2 (fun _ _ e => by cases e)
      have f9 := kk b9 _ e9 (fun _ _ e => by cases e)
      have f11 := kk b11 _ e11 (fun _ _ e => by cases e)
      exact ⟨j, ver, h', ea, f11, ih (i + 1) m _ (h'.set b11 _) (by omega) (by omega) (get_set_ne f1 (by omega)) (get_set_ne f2 (by omega)) (get_set_ne f9 (fun e => hb e.symm)) (get_set_eq f11) (by rw [e3, hs]; exact oo.set f11 (fun _ _ e => by cases e) _)⟩
    by_cases q : (i : Int) = p
    case pos =>
      have qn : i = p := by omega
      subst qn
      obtain ⟨kv, rfl, hkv⟩ := hc'.kv3
      obtain ⟨j, ver, h', ea, f11, v', h'', e, g1, g2, g3⟩ := go t' _ hc' (by simp)
      refine ⟨v', h'', ?_, g1, g2, g3⟩
      rw [← e]
      have hlt := fun h => lit_tree h t'.sym t'.rule kv hkv
      simp only [loop_e,EB_r20_last_1,Zaa,Zab,Zac,Zad,Zae,Zag,Zaj,Zak,Zan,Zar,Zau,Zay,Zaz,Zba,Zbi,Zbk,Zbo,Zbp,Zbq,Zby,Zcg,Zci,Zcm,Zcu,Zcv,Zcw,Zcx,Zda,Zdb,Zdc,List.set_cons_zero,List.set_cons_succ,List.getD_cons_zero,List.getD_cons_succ,Option.bind_some,Zdd,Zdg,Zdk,Zdw,Zdy,Zdz,Zef,decide_true,List.getElem?_cons_zero,List.length_cons,List.length_nil,if_true,Nat.reduceAdd,Nat.reduceLeDiff,eq_self,and_self,aload,acells,getArr,part,astore,putCells,List.all_cons,List.all_nil,cellOk,Bool.and_self,List.drop_zero,List.drop_succ_cons,List.take_succ_cons,List.take_zero,List.take_nil,List.cons_append,List.nil_append,List.set_cons_zero,e1,ll,h5',e9,e11,ev2,hlt,ea,f11,hw]
    case neg =>
      have qn : p ≠ i := by omega
      obtain ⟨ci, ei, xi⟩ := ix i h5
      obtain ⟨kv, rfl, hkv⟩ := ei.kv3
      obtain ⟨j, ver, h', ea, f11, v', h'', e, g1, g2, g3⟩ := go ks[i] _ ei (by simp [qn])
      refine ⟨v', h'', ?_, g1, g2, g3⟩
      rw [← e]
      have hlt := fun h => lit_tree h (ks[i]).sym (ks[i]).rule kv hkv
      simp only [loop_e,EB_r20_last_1,Zaa,Zab,Zac,Zad,Zae,Zag,Zaj,Zak,Zan,Zar,Zas,Zau,Zay,Zaz,Zba,Zbi,Zbk,Zbo,Zbp,Zbq,Zby,Zcb,Zcg,Zci,Zcm,Zcu,Zcv,Zcw,Zcx,Zda,Zdb,Zdc,List.set_cons_zero,List.set_cons_succ,List.getD_cons_zero,List.getD_cons_succ,Option.bind_some,Zdd,Zdg,Zdk,Zdw,Zdy,Zdz,Zef,decide_true,decide_false,List.getElem?_cons_zero,List.length_cons,List.length_nil,if_true,Nat.reduceAdd,Nat.reduceLeDiff,eq_self,and_self,aload,acells,getArr,part,astore,putCells,List.all_cons,List.all_nil,cellOk,Bool.and_self,List.drop_zero,List.drop_succ_cons,List.take_succ_cons,List.take_zero,List.take_nil,List.cons_append,List.nil_append,List.set_cons_zero,e1,ll,h5',q,xi,e11,ev2,hlt,ea,f11,hw]
end Go.Proofs.Ytkimloceaihplaa.Ai
