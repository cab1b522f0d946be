/- Trees as data; what is computed of them. No program in sight. -/
import Derived.Test.YtkimloceaihplaapGr1
namespace Go.Proofs.Ytkimloceaihplaa.Ai
open Go
set_option linter.unusedVariables false
set_option linter.unusedSimpArgs false

inductive T where
  | node (s r : Int) (ks : List T)

def T.sym : T → Int
  | .node s _ _ => s
def T.rule : T → Int
  | .node _ r _ => r
def T.kids : T → List T
  | .node _ _ ks => ks

theorem sym_node (s r : Int) (ks : List T) : (T.node s r ks).sym = s := rfl
theorem rule_node (s r : Int) (ks : List T) : (T.node s r ks).rule = r := rfl

mutual
def cT : T → List AV
  | .node s r ks => [.int .i64 s, .int .i64 r, .vsl false (cTs ks)]
def cTs : List T → List (List AV)
  | [] => []
  | t :: r => cT t :: cTs r
end
def inI64 (n : Int) : Prop := -9223372036854775808 ≤ n ∧ n ≤ 9223372036854775807
mutual
def okT : T → Prop
  | .node s r ks => inI64 s ∧ inI64 r ∧ ks.length ≤ maxLen ∧ okTs ks
def okTs : List T → Prop
  | [] => True
  | t :: r => okT t ∧ okTs r
end
mutual
def sizeN : T → Nat
  | .node _ _ ks => 1 + sizeNs ks
def sizeNs : List T → Nat
  | [] => 0
  | t :: r => sizeN t + sizeNs r
end
mutual
def post : T → List T
  | .node s r ks => posts ks ++ [.node s r ks]
def posts : List T → List T
  | [] => []
  | t :: r => post t ++ posts r
end

theorem cTs_map : ∀ ks, cTs ks = ks.map cT
  | [] => rfl
  | t :: r => by simp [cTs, cTs_map r]
theorem cT_eq (t : T) : cT t = [.int .i64 t.sym, .int .i64 t.rule, .vsl false (t.kids.map cT)] := by
  obtain ⟨s, r, ks⟩ := t
  simp [cT, cTs_map, T.sym, T.rule, T.kids]
theorem cT_len (t : T) : (cT t).length = 3 := by cases t; rfl
theorem okTs_mem : ∀ {ks : List T} {t : T}, okTs ks → t ∈ ks → okT t
  | a :: r, t, h, hm => by
    rcases List.mem_cons.1 hm with rfl | hm
    · exact h.1
    · exact okTs_mem h.2 hm
  | [], t, h, hm => by cases hm
theorem okTs_of : ∀ {ks : List T}, (∀ t ∈ ks, okT t) → okTs ks
  | [], _ => trivial
  | a :: r, h => ⟨h a (List.mem_cons_self ..), okTs_of fun t ht => h t (List.mem_cons_of_mem _ ht)⟩
theorem sizeN_pos (t : T) : 1 ≤ sizeN t := by cases t; simp [sizeN]
theorem sizeNs_mem : ∀ {ks : List T} {t : T}, t ∈ ks → sizeN t ≤ sizeNs ks
  | a :: r, t, hm => by
    rcases List.mem_cons.1 hm with rfl | hm
    · simp [sizeNs]
    · have := sizeNs_mem hm; simp [sizeNs]; omega
  | [], t, hm => by cases hm
mutual
theorem post_len : ∀ t, (post t).length = sizeN t
  | .node s r ks => by simp [post, sizeN, posts_len ks]; omega
theorem posts_len : ∀ ks, (posts ks).length = sizeNs ks
  | [] => rfl
  | t :: r => by simp [posts, sizeNs, post_len t, posts_len r]
end

/-- Trees from below: a proof for a tree has it for its kids. -/
theorem T.ind {P : T → Prop} (h : ∀ s r ks, (∀ t ∈ ks, P t) → P (.node s r ks)) : ∀ t, P t := by
  have main : ∀ n, ∀ t, sizeN t ≤ n → P t := by
    intro n
    induction n with
    | zero => intro t ht; have := sizeN_pos t; omega
    | succ n ih =>
      intro t ht
      obtain ⟨s, r, ks⟩ := t
      refine h s r ks fun k hk => ih k ?_
      have := sizeNs_mem hk
      simp [sizeN] at ht; omega
  exact fun t => main (sizeN t) t (Nat.le_refl _)

theorem fz_tree (t : T) (h : AHeap) : freeze h 1000 (.agg (cT t)) = some (.agg (cT t), true) := by
  rw [cT_eq]; simp [freeze, mapO]

/-- Does a node agree with its rule? -/
def fitsB (g : GramD) : T → Bool
  | .node s r ks =>
    if r = -1 then decide ((ks.length : Int) = 0) && isSym g s
    else if r < 0 ∨ (g.rules.length : Int) ≤ r then false
    else match g.rules[r.toNat]? with
      | some x => decide (s = -1 - x.left) && decide (ks.map T.sym = x.right)
      | none => false
mutual
def nodeB (g : GramD) : T → Bool
  | .node s r ks => fitsB g (.node s r ks) && nodesB g ks
def nodesB (g : GramD) : List T → Bool
  | [] => true
  | t :: r => nodeB g t && nodesB g r
end
mutual
theorem nodeB_post (g : GramD) : ∀ t, (post t).all (fitsB g) = nodeB g t
  | .node s r ks => by simp [post, nodeB, nodesB_posts g ks, Bool.and_comm]
theorem nodesB_posts (g : GramD) : ∀ ks, (posts ks).all (fitsB g) = nodesB g ks
  | [] => rfl
  | t :: r => by simp [posts, nodesB, nodeB_post g t, nodesB_posts g r]
end
mutual
def yieldT : T → List Int
  | .node s r ks => yieldTs ks ++ (if r = -1 then [s] else [])
def yieldTs : List T → List Int
  | [] => []
  | t :: r => yieldT t ++ yieldTs r
end
mutual
def redsT : T → List Int
  | .node s r ks => redsTs ks ++ (if r ≠ -1 ∧ r ≠ 0 then [r] else [])
def redsTs : List T → List Int
  | [] => []
  | t :: r => redsT t ++ redsTs r
end
def leafSyms (l : List T) : List Int := l.filterMap fun t => if t.rule = -1 then some t.sym else none
def redSyms (l : List T) : List Int := l.filterMap fun t => if t.rule ≠ -1 ∧ t.rule ≠ 0 then some t.rule else none
mutual
theorem yield_post : ∀ t, leafSyms (post t) = yieldT t
  | .node s r ks => by
    have := yields_posts ks
    simp only [leafSyms] at this ⊢
    simp only [post,yieldT,List.filterMap_append,this,List.filterMap_cons,List.filterMap_nil,rule_node,sym_node]
    by_cases h : r = -1 <;> simp [h]
theorem yields_posts : ∀ ks, leafSyms (posts ks) = yieldTs ks
  | [] => rfl
  | t :: r => by
    have h1 := yield_post t
    have h2 := yields_posts r
    simp only [leafSyms] at h1 h2 ⊢
    simp [posts, yieldTs, h1, h2]
end
mutual
theorem reds_post : ∀ t, redSyms (post t) = redsT t
  | .node s r ks => by
    have := reds_posts ks
    simp only [redSyms] at this ⊢
    simp only [post,redsT,List.filterMap_append,this,List.filterMap_cons,List.filterMap_nil,rule_node]
    by_cases h : r ≠ -1 ∧ r ≠ 0 <;> simp [h]
theorem reds_posts : ∀ ks, redSyms (posts ks) = redsTs ks
  | [] => rfl
  | t :: r => by
    have h1 := reds_post t
    have h2 := reds_posts r
    simp only [redSyms] at h1 h2 ⊢
    simp [posts, redsTs, h1, h2]
end
/-- The name of a symbol. -/
def symName (g : GramD) (s : Int) : Str :=
  if isSym g s = false then [63] else if s < 0 then g.nonterms.getD (-1 - s).toNat [] else g.terms.getD s.toNat []
mutual
def showT (g : GramD) : T → Str
  | .node s r ks => if r = -1 then symName g s else [40] ++ symName g s ++ showTs g ks ++ [41]
def showTs (g : GramD) : List T → Str
  | [] => []
  | t :: r => [32] ++ showT g t ++ showTs g r
end
theorem ix_tree (h : AHeap) (e : Bool) (ks : List T) (k : IntKind) (j : Nat) (hj : j < ks.length) : aindexAddr h 3 (.vsl e (ks.map cT)) (.int k j) = some (.vptr (cT ks[j]) 0) := ix_map cT h 3 e ks k j hj (cT_len _)
end Go.Proofs.Ytkimloceaihplaa.Ai
