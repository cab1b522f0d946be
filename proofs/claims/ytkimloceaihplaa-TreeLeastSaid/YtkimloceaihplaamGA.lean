/- Grammars as data; what the checks of a grammar compute. No program in sight. -/
import Derived.Test.YtkimloceaihplaamAi27
namespace Go.Proofs.Ytkimloceaihplaa.Ai
open Go
set_option linter.unusedVariables false
set_option linter.unusedSimpArgs false
abbrev Str := List UInt8
structure RuleD where
 left : Int
 right : List Int
 fields : List Str
 label : Str
 level : Int
structure LevelD where
 assoc : Int
 terms : List Int
structure GramD where
 terms : List Str
 nonterms : List Str
 origins : List Int
 rules : List RuleD
 levels : List LevelD
abbrev eRule (r : RuleD) : List AV := [.int .i64 r.left, .vsl false (eIs r.right), .vsl false (eSs r.fields), .str r.label, .int .i64 r.level]
abbrev eLevel (l : LevelD) : List AV := [.int .i64 l.assoc, .vsl false (eIs l.terms)]
abbrev eGram (g : GramD) : List AV := [.vsl false (eSs g.terms), .vsl false (eSs g.nonterms), .vsl false (eIs g.origins), .vsl false (g.rules.map eRule), .vsl false (g.levels.map eLevel)]
structure RuleD.Ok (r : RuleD) : Prop where
 right : r.right.length ≤ maxLen
 fields : r.fields.length ≤ maxLen
 left0 : -9223372036854775808 ≤ r.left ∧ r.left ≤ 9223372036854775807
structure GramD.Ok (g : GramD) : Prop where
 terms : g.terms.length ≤ maxLen
 nonterms : g.nonterms.length ≤ maxLen
 origins : g.origins.length ≤ maxLen
 rules : g.rules.length ≤ maxLen
 levels : g.levels.length ≤ maxLen
 rule : ∀ r ∈ g.rules, r.Ok
 level : ∀ l ∈ g.levels, l.terms.length ≤ maxLen
def isSym (g : GramD) (s : Int) : Bool := decide (s < g.terms.length) && decide (-(g.nonterms.length : Int) ≤ s)
def wsum : List RuleD → Int → Int
 | [], n => n
 | r :: l, n => wsum l (IntKind.i64.wrap (n + r.right.length))
def countsOk (g : GramD) : Bool :=
 decide ((2 : Int) ≤ g.terms.length) && decide ((g.terms.length : Int) ≤ 256) && (decide ((1 : Int) ≤ g.nonterms.length) && decide ((g.nonterms.length : Int) ≤ 512)) && decide ((g.origins.length : Int) = g.nonterms.length) &&
  g.origins.all (fun o => decide (0 ≤ o) && decide (o ≤ 5)) && (decide ((1 : Int) ≤ g.rules.length) && decide ((g.rules.length : Int) ≤ 1024)) && decide ((g.levels.length : Int) ≤ 32) && decide (wsum g.rules 0 ≤ 8192)
def twiceB (l : List Str) : Bool := !decide l.Nodup
def startOk (g : GramD) : Bool :=
 match g.rules with
 | [] => false
 | r :: rest => decide (r.left = 0) && decide ((r.right.length : Int) = 1) && decide (r.right.getD 0 0 < -1) && isSym g (r.right.getD 0 0) && rest.all fun x => decide (x.left ≠ 0)
def badSym (g : GramD) (s : Int) : Bool := !isSym g s || (decide (-1 ≤ s) && decide (s ≤ 1))
def ruleErr (g : GramD) (x : RuleD) (ahead : Int) : Int :=
 if x.left < 0 ∨ (g.nonterms.length : Int) ≤ x.left ∨ x.left < ahead ∨ (32 : Int) < x.right.length then 22
 else if x.right.any (badSym g) = true then 21
 else if (x.fields.length : Int) ≠ 0 ∧ (x.fields.length : Int) ≠ x.right.length then 25
 else if x.level < 0 ∨ (g.levels.length : Int) < x.level then 24
 else 0
def rulesErr (g : GramD) : List RuleD → Int → Int
 | [], _ => 0
 | x :: l, ahead => if ruleErr g x ahead ≠ 0 then ruleErr g x ahead else rulesErr g l x.left
def termsGo (T : Nat) : List Int → List Int → Option (List Int)
 | [], seen => some seen
 | t :: l, seen => if t < 2 ∨ (T : Int) ≤ t ∨ t ∈ seen then none else termsGo T l (t :: seen)
def levelsGo (T : Nat) : List LevelD → List Int → Bool
 | [], _ => true
 | x :: l, seen =>
  if x.assoc < 1 ∨ 4 < x.assoc then false else
  match termsGo T x.terms seen with
  | some s => levelsGo T l s
  | none => false
def gramErr (g : GramD) : Int :=
 if countsOk g = false then 9
 else if twiceB g.terms = true ∨ twiceB g.nonterms = true then 8
 else if startOk g = false then 23
 else if rulesErr g g.rules 0 ≠ 0 then rulesErr g g.rules 0
 else if levelsGo g.terms.length g.levels [] = true then 0 else 24
theorem lim_flat {C : Cfg} (hx : C.ix = fun _ => none) {g : Nat} (hp : C.pu g = true) {fn : AFn} (hP : C.P g = some fn) (n : Nat) {a : List AV} (ha : ∀ h, mapO (freeze h 1000) a = some (a.map fun x => (x, true))) {x : AV}
  (hr : ∃ h', runFn (lim C) n fn a [] = some (x, h')) (hf : ∀ h, freeze h 1000 x = some (x, true)) (H : AHeap) : lim C (.func g) a H = some (x, H) := by
 obtain ⟨h', hr⟩ := hr
 exact lim_at hx hp hP n ha hr (hf h') H
theorem lim_fz {C : Cfg} (hx : C.ix = fun _ => none) {g : Nat} (hp : C.pu g = true) {fn : AFn} (hP : C.P g = some fn) (n : Nat) {a : List AV} {l : List (AV × Bool)} {H : AHeap} (ha : mapO (freeze H 1000) a = some l) {x y : AV} {c : Bool} {h' : AHeap}
  (hr : runFn (lim C) n fn (l.map (·.1)) [] = some (x, h')) (hf : freeze h' 1000 x = some (y, c)) (hc : (l.all (·.2) || isFlat y) = true) : lim C (.func g) a H = some (y, H) := by
 refine lim_pure hp n ?_
 unfold pureCall
 rw [ha]
 simp only [pureRes,hx,hP,hr,hf,Option.map_some,hc,Bool.true_or,cond_true]
theorem get_app {α : Type} {h : List α} {i : Nat} {x : α} (hb : h[i]? = some x) (l : List α) : (h ++ l)[i]? = some x := by
 rw [List.getElem?_append_left (List.getElem?_eq_some_iff.1 hb).1]; exact hb
theorem get_new {α : Type} (h : List α) (x : α) : (h ++ [x])[h.length]? = some x := by simp
theorem set_new {α : Type} (h : List α) (x y : α) : (h ++ [x]).set h.length y = h ++ [y] := by simp
theorem z0 : ((0 : Nat) : Int) = 0 := rfl
theorem fz_fn {h : AHeap} {caps : List AV} {g : Nat} (d : Nat) (hcp : mapO (freeze h d) caps = some (caps.map fun x => (x, true))) : freeze h (d + 1) (.fn (.func g) [] caps) = some (.fn (.func g) [] caps, true) := by
 simp [freeze, mapO, hcp, Function.comp_def]
theorem fz_fnc {h : AHeap} {caps : List AV} {bs : List (AV × Bool)} {g : Nat} (d : Nat) (hcp : mapO (freeze h d) caps = some bs) : freeze h (d + 1) (.fn (.func g) [] caps) = some (.fn (.func g) [] (bs.map (·.1)), bs.all (·.2)) := by
 simp [freeze, mapO, hcp]
theorem fz_vsl (h : AHeap) (e : Bool) (l : List (List AV)) : freeze h 1000 (.vsl e l) = some (.vsl e l, true) := rfl
theorem fz_fnc60 {h : AHeap} {caps : List AV} {bs : List (AV × Bool)} {g : Nat} (hcp : mapO (freeze h 999) caps = some bs) : freeze h 1000 (.fn (.func g) [] caps) = some (.fn (.func g) [] (bs.map (·.1)), bs.all (·.2)) := fz_fnc 999 hcp
theorem mapO_2 {α β : Type} {f : α → Option β} {a b : α} {x y : β} (h1 : f a = some x) (h2 : f b = some y) : mapO f [a, b] = some [x, y] := by simp only [mapO,h1,h2]
theorem mapO_3 {α β : Type} {f : α → Option β} {a b c : α} {x y z : β} (h1 : f a = some x) (h2 : f b = some y) (h3 : f c = some z) : mapO f [a, b, c] = some [x, y, z] := by simp only [mapO,h1,h2,h3]
theorem fz_1 {h : AHeap} {a : AV} (h1 : freeze h 1000 a = some (a, true)) : mapO (freeze h 1000) [a] = some ([a].map fun x => (x, true)) := by
 simp only [mapO,h1,List.map_cons,List.map_nil]
theorem fz_2 {h : AHeap} {a b : AV} (h1 : freeze h 1000 a = some (a, true)) (h2 : freeze h 1000 b = some (b, true)) : mapO (freeze h 1000) [a, b] = some ([a, b].map fun x => (x, true)) := by
 simp only [mapO,h1,h2,List.map_cons,List.map_nil]
theorem fz_3 {h : AHeap} {a b c : AV} (h1 : freeze h 1000 a = some (a, true)) (h2 : freeze h 1000 b = some (b, true)) (h3 : freeze h 1000 c = some (c, true)) : mapO (freeze h 1000) [a, b, c] = some ([a, b, c].map fun x => (x, true)) := by
 simp only [mapO,h1,h2,h3,List.map_cons,List.map_nil]
theorem fz_gram (g : GramD) (h : AHeap) : freeze h 1000 (.agg (eGram g)) = some (.agg (eGram g), true) := by simp [freeze, mapO]
theorem fz_rule (r : RuleD) (h : AHeap) : freeze h 1000 (.agg (eRule r)) = some (.agg (eRule r), true) := by simp [freeze, mapO]
end Go.Proofs.Ytkimloceaihplaa.Ai
namespace Go.Proofs.Ytkimloceaihplaa.Ai
open Go
set_option linter.unusedVariables false
set_option linter.unusedSimpArgs false
inductive T where
 | node (s r : Int) (ks : List T)
def T.sym : T → Int
 | .node s _ _ => s
def T.rule : T → Int
 | .node _ r _ => r
def T.kids : T → List T
 | .node _ _ ks => ks
theorem sym_node (s r : Int) (ks : List T) : (T.node s r ks).sym = s := rfl
theorem rule_node (s r : Int) (ks : List T) : (T.node s r ks).rule = r := rfl
mutual
def cT : T → List AV
 | .node s r ks => [.int .i64 s, .int .i64 r, .vsl false (cTs ks)]
def cTs : List T → List (List AV)
 | [] => []
 | t :: r => cT t :: cTs r
end
def inI64 (n : Int) : Prop := -9223372036854775808 ≤ n ∧ n ≤ 9223372036854775807
mutual
def okT : T → Prop
 | .node s r ks => inI64 s ∧ inI64 r ∧ ks.length ≤ maxLen ∧ okTs ks
def okTs : List T → Prop
 | [] => True
 | t :: r => okT t ∧ okTs r
end
mutual
def sizeN : T → Nat
 | .node _ _ ks => 1 + sizeNs ks
def sizeNs : List T → Nat
 | [] => 0
 | t :: r => sizeN t + sizeNs r
end
mutual
def post : T → List T
 | .node s r ks => posts ks ++ [.node s r ks]
def posts : List T → List T
 | [] => []
 | t :: r => post t ++ posts r
end
theorem cTs_map : ∀ ks, cTs ks = ks.map cT
 | [] => rfl
 | t :: r => by simp [cTs, cTs_map r]
theorem cT_eq (t : T) : cT t = [.int .i64 t.sym, .int .i64 t.rule, .vsl false (t.kids.map cT)] := by
 obtain ⟨s, r, ks⟩ := t
 simp [cT, cTs_map, T.sym, T.rule, T.kids]
theorem cT_len (t : T) : (cT t).length = 3 := by cases t; rfl
theorem okTs_mem : ∀ {ks : List T} {t : T}, okTs ks → t ∈ ks → okT t
 | a :: r, t, h, hm => by
  rcases List.mem_cons.1 hm with rfl | hm
  ·exact h.1
  ·exact okTs_mem h.2 hm
 | [], t, h, hm => by cases hm
theorem okTs_of : ∀ {ks : List T}, (∀ t ∈ ks, okT t) → okTs ks
 | [], _ => trivial
 | a :: r, h => ⟨h a (List.mem_cons_self ..), okTs_of fun t ht => h t (List.mem_cons_of_mem _ ht)⟩
theorem sizeN_pos (t : T) : 1 ≤ sizeN t := by cases t; simp [sizeN]
theorem sizeNs_mem : ∀ {ks : List T} {t : T}, t ∈ ks → sizeN t ≤ sizeNs ks
 | a :: r, t, hm => by
  rcases List.mem_cons.1 hm with rfl | hm
  ·simp [sizeNs]
  ·have := sizeNs_mem hm; simp [sizeNs]; omega
 | [], t, hm => by cases hm
mutual
theorem post_len : ∀ t, (post t).length = sizeN t
 | .node s r ks => by simp [post, sizeN, posts_len ks]; omega
theorem posts_len : ∀ ks, (posts ks).length = sizeNs ks
 | [] => rfl
 | t :: r => by simp [posts, sizeNs, post_len t, posts_len r]
end
theorem T.ind {P : T → Prop} (h : ∀ s r ks, (∀ t ∈ ks, P t) → P (.node s r ks)) : ∀ t, P t := by
 have main : ∀ n, ∀ t, sizeN t ≤ n → P t := by
  intro n
  induction n with
  | zero => intro t ht; have := sizeN_pos t; omega
  | succ n ih =>
   intro t ht
   obtain ⟨s, r, ks⟩ := t
   refine h s r ks fun k hk => ih k ?_
   have := sizeNs_mem hk
   simp [sizeN] at ht; omega
 exact fun t => main (sizeN t) t (Nat.le_refl _)
theorem fz_tree (t : T) (h : AHeap) : freeze h 1000 (.agg (cT t)) = some (.agg (cT t), true) := by
 rw [cT_eq]; simp [freeze, mapO]
def fitsB (g : GramD) : T → Bool
 | .node s r ks =>
  if r = -1 then decide ((ks.length : Int) = 0) && isSym g s
  else if r < 0 ∨ (g.rules.length : Int) ≤ r then false
  else match g.rules[r.toNat]? with
   | some x => decide (s = -1 - x.left) && decide (ks.map T.sym = x.right)
   | none => false
mutual
def nodeB (g : GramD) : T → Bool
 | .node s r ks => fitsB g (.node s r ks) && nodesB g ks
def nodesB (g : GramD) : List T → Bool
 | [] => true
 | t :: r => nodeB g t && nodesB g r
end
mutual
def yieldT : T → List Int
 | .node s r ks => yieldTs ks ++ (if r = -1 then [s] else [])
def yieldTs : List T → List Int
 | [] => []
 | t :: r => yieldT t ++ yieldTs r
end
def leafSyms (l : List T) : List Int := l.filterMap fun t => if t.rule = -1 then some t.sym else none
mutual
theorem yield_post : ∀ t, leafSyms (post t) = yieldT t
 | .node s r ks => by
  have := yields_posts ks
  simp only [leafSyms] at this ⊢
  simp only [post,yieldT,List.filterMap_append,this,List.filterMap_cons,List.filterMap_nil,rule_node,sym_node]
  by_cases h : r = -1 <;> simp [h]
theorem yields_posts : ∀ ks, leafSyms (posts ks) = yieldTs ks
 | [] => rfl
 | t :: r => by
  have h1 := yield_post t
  have h2 := yields_posts r
  simp only [leafSyms] at h1 h2 ⊢
  simp [posts, yieldTs, h1, h2]
end
theorem ix_tree (h : AHeap) (e : Bool) (ks : List T) (k : IntKind) (j : Nat) (hj : j < ks.length) : aindexAddr h 3 (.vsl e (ks.map cT)) (.int k j) = some (.vptr (cT ks[j]) 0) := ix_map cT h 3 e ks k j hj (cT_len _)
end Go.Proofs.Ytkimloceaihplaa.Ai
namespace Go.Proofs.Ytkimloceaihplaa.Ai
open Go
open Bool renaming and_eq_true → Q0
set_option linter.unusedVariables false
set_option linter.unusedSimpArgs false
structure MS where
 mv : List Int
 size : Int
 y : List Int
def leafT (s : Int) : T := .node s (-1) []
def zeroT : T := .node 0 0 []
def kidsGo {X : Type} (f : Int → X → (T × Int) × X) : List Int → List T → X → (List T × Int) × X
 | [], acc, x => ((acc, 0), x)
 | s :: l, acc, x => if (f s x).1.2 ≠ 0 then (([], (f s x).1.2), (f s x).2) else kidsGo f l ((f s x).1.1 :: acc) (f s x).2
def kidsOf {X : Type} (g : GramD) (f : Int → X → (T × Int) × X) (k : Nat) (x : X) : (T × Int) × X :=
 match g.rules[k]? with
 | some r => if (kidsGo f r.right.reverse [] x).1.2 ≠ 0 then ((zeroT, (kidsGo f r.right.reverse [] x).1.2), (kidsGo f r.right.reverse [] x).2) else ((.node (-1 - r.left) k (kidsGo f r.right.reverse [] x).1.1, 0), (kidsGo f r.right.reverse [] x).2)
 | none => ((zeroT, 0), x)
theorem rulesErr_mem (g : GramD) : ∀ (l : List RuleD) (a : Int), rulesErr g l a = 0 → ∀ x ∈ l, ∃ a', ruleErr g x a' = 0
 | [], _, _, x, hx => by cases hx
 | y :: l, a, h, x, hx => by
  simp only [rulesErr] at h
  by_cases q : ruleErr g y a = 0
  ·rw [if_neg (fun e => e q)] at h
   rcases List.mem_cons.1 hx with rfl | hx
   ·exact ⟨a, q⟩
   ·exact rulesErr_mem g l _ h x hx
  ·rw [if_pos q] at h; exact absurd h q
theorem ruleErr_left {g : GramD} {x : RuleD} {a : Int} (h : ruleErr g x a = 0) : 0 ≤ x.left ∧ x.left < g.nonterms.length ∧ (x.right.length : Int) ≤ 32 ∧ ∀ s ∈ x.right, badSym g s = false := by
 unfold ruleErr at h
 split at h
 ·omega
 ·rename_i h1
  split at h
  ·omega
  ·rename_i h2
   refine ⟨by omega, by omega, by omega, fun s hs => ?_⟩
   cases e : badSym g s with
   | false => rfl
   | true => exact absurd (List.any_eq_true.2 ⟨s, hs, e⟩) h2
structure Good (g : GramD) : Prop where
 rules : rulesErr g g.rules 0 = 0
 start : startOk g = true
 nt : (g.nonterms.length : Int) ≤ 512
 tm : (g.terms.length : Int) ≤ 256
theorem good_of {g : GramD} (h : gramErr g = 0) : Good g := by
 unfold gramErr at h
 split at h
 ·omega
 rename_i h1
 split at h
 ·omega
 split at h
 ·omega
 rename_i h3
 split at h
 ·rename_i h4; exact absurd h h4
 rename_i h4
 simp only [countsOk,Bool.not_eq_false,Q0,decide_eq_true_eq] at h1
 exact ⟨by simpa using h4, by simpa using h3, by omega, by omega⟩
theorem Good.rule {g : GramD} (hg : Good g) {x : RuleD} (hx : x ∈ g.rules) : 0 ≤ x.left ∧ x.left < g.nonterms.length ∧ (x.right.length : Int) ≤ 32 ∧ ∀ s ∈ x.right, badSym g s = false := by
 obtain ⟨a, h⟩ := rulesErr_mem g g.rules 0 hg.rules x hx
 exact ruleErr_left h
theorem Good.zero {g : GramD} (hg : Good g) : ∃ x s, g.rules[0]? = some x ∧ x.left = 0 ∧ x.right = [s] ∧ s < -1 := by
 have h := hg.start
 unfold startOk at h
 cases hr : g.rules with
 | nil => rw [hr] at h; simp at h
 | cons x l =>
  rw [hr] at h
  simp only [Q0,decide_eq_true_eq] at h
  obtain ⟨⟨⟨⟨h1, h2⟩, h3⟩, _⟩, _⟩ := h
  obtain ⟨s, hs⟩ : ∃ s, x.right = [s] := List.length_eq_one_iff.1 (by omega)
  rw [hs] at h3
  exact ⟨x, s, by simp, h1, hs, by simpa using h3⟩
theorem fitsB_in {g : GramD} {s r : Int} {ks : List T} (h : fitsB g (.node s r ks) = true) (hr : r ≠ -1) : 0 ≤ r ∧ ∃ x, g.rules[r.toNat]? = some x ∧ s = -1 - x.left ∧ ks.map T.sym = x.right := by
 simp only [fitsB,if_neg hr] at h
 split at h
 ·simp at h
 ·rename_i h1
  refine ⟨by omega, ?_⟩
  cases hx : g.rules[r.toNat]? with
  | none => rw [hx] at h; simp at h
  | some x =>
   rw [hx] at h
   simp only [Q0,decide_eq_true_eq] at h
   exact ⟨x, rfl, h.1, h.2⟩
theorem nodesB_all {g : GramD} : ∀ {ks : List T}, nodesB g ks = true → ∀ t ∈ ks, nodeB g t = true
 | [], _, t, ht => by cases ht
 | a :: l, h, t, ht => by
  simp only [nodesB,Q0] at h
  rcases List.mem_cons.1 ht with rfl | ht
  ·exact h.1
  ·exact nodesB_all h.2 t ht
theorem sizeNs_app : ∀ a b : List T, sizeNs (a ++ b) = sizeNs a + sizeNs b
 | [], b => by simp [sizeNs]
 | t :: a, b => by simp [sizeNs, sizeNs_app a b]; omega
theorem len_sizeNs : ∀ ks : List T, (ks.length : Int) ≤ sizeNs ks
 | [] => by simp [sizeNs]
 | t :: l => by have := sizeN_pos t; have := len_sizeNs l; simp only [sizeNs,List.length_cons]; omega
end Go.Proofs.Ytkimloceaihplaa.Ai
namespace Go.Proofs.Ytkimloceaihplaa.Ai
open Go
open List renaming getD_eq_getElem?_getD → Q0, mem_or_eq_of_mem_set → Q2, eq_of_mem_replicate → Q3, replicate → Q4
open Int renaming le_refl → Q1
set_option linter.unusedVariables false
set_option linter.unusedSimpArgs false
def roundU {S R : Type} (upd : S → R → Option S) (rs : List R) (st : S × Bool) : S × Bool := rs.foldl (fun st r => match upd st.1 r with | none => st | some l => (l, true)) st
theorem roundU_cons {S R : Type} (upd : S → R → Option S) (r : R) (rs : List R) (st : S × Bool) : roundU upd (r :: rs) st = roundU upd rs (match upd st.1 r with | none => st | some l => (l, true)) := rfl
theorem roundU_true {S R : Type} (upd : S → R → Option S) : ∀ (rs : List R) (l : S), (roundU upd rs (l, true)).2 = true := by
 intro rs
 induction rs with
 | nil => intro l; rfl
 | cons r rs ih =>
  intro l
  rw [roundU_cons]
  cases e : upd l r with
  | none => simp only []; exact ih l
  | some l' => simp only []; exact ih l'
theorem roundU_same {S R : Type} (upd : S → R → Option S) : ∀ (rs : List R) (l : S), (roundU upd rs (l, false)).2 = false → (∀ r ∈ rs, upd l r = none) ∧ (roundU upd rs (l, false)).1 = l := by
 intro rs
 induction rs with
 | nil => intro l _; exact ⟨fun _ h => by simp at h, rfl⟩
 | cons r rs ih =>
  intro l h
  rw [roundU_cons] at h ⊢
  cases e : upd l r with
  | none =>
   simp only [e] at h ⊢
   obtain ⟨h1, h2⟩ := ih l h
   exact ⟨fun x hx => by
    rcases List.mem_cons.1 hx with rfl | hx
    ·exact e
    ·exact h1 x hx, h2⟩
  | some l' =>
   simp only [e] at h
   rw [roundU_true] at h
   cases h
theorem roundU_inv {S R : Type} (upd : S → R → Option S) (P : S → Prop) : ∀ (rs : List R) (st : S × Bool), (∀ l l' r, r ∈ rs → P l → upd l r = some l' → P l') → P st.1 → P (roundU upd rs st).1 := by
 intro rs
 induction rs with
 | nil => intro st _ h; exact h
 | cons r rs ih =>
  intro st hs h
  rw [roundU_cons]
  refine ih _ (fun l l' x hx => hs l l' x (by simp [hx])) ?_
  cases e : upd st.1 r with
  | none => exact h
  | some l' => exact hs _ _ r (by simp) h e
def lx (a b : Nat × Nat) : Prop := a.1 < b.1 ∨ (a.1 = b.1 ∧ a.2 < b.2)
theorem roundU_less {S R : Type} (upd : S → R → Option S) (P : S → Prop) (mu : S → Nat × Nat) : ∀ (rs : List R) (st : S × Bool) (m : Nat × Nat), (∀ l l' r, r ∈ rs → P l → upd l r = some l' → P l' ∧ lx (mu l') (mu l)) → P st.1 → ((st.2 = false ∧ mu st.1 = m) ∨ lx (mu st.1) m) → (roundU upd rs st).2 = true → (st.2 = true → lx (mu st.1) m) → lx (mu (roundU upd rs st).1) m := by
 intro rs
 induction rs with
 | nil => intro st m _ _ _ h2 h3; exact h3 h2
 | cons r rs ih =>
  intro st m hs hP h1 h2 h3
  rw [roundU_cons] at h2 ⊢
  cases e : upd st.1 r with
  | none =>
   simp only [e] at h2 ⊢
   exact ih st m (fun l l' x hx => hs l l' x (by simp [hx])) hP h1 h2 h3
  | some l' =>
   simp only [e] at h2 ⊢
   obtain ⟨p, q⟩ := hs _ _ r (by simp) hP e
   have l1 : lx (mu l') m := by
    rcases h1 with ⟨_, h1⟩ | h1
    ·rw [← h1]; exact q
    ·unfold lx at *; omega
   exact ih (l', true) m (fun l l' x hx => hs l l' x (by simp [hx])) p (.inr l1) h2 (fun _ => l1)
def Steps {S R : Type} (upd : S → R → Option S) (rs : List R) : Nat → S → S → Prop
 | 0, s, L => (roundU upd rs (s, false)).2 = false ∧ L = s
 | k + 1, s, L => (roundU upd rs (s, false)).2 = true ∧ Steps upd rs k (roundU upd rs (s, false)).1 L
theorem steps_ex {S R : Type} (upd : S → R → Option S) (rs : List R) (P : S → Prop) (mu : S → Nat × Nat) (hs : ∀ l l' r, r ∈ rs → P l → upd l r = some l' → P l' ∧ lx (mu l') (mu l)) : ∀ s, P s → ∃ k L, Steps upd rs k s L := by
 have key : ∀ a b s, P s → (mu s).1 = a → (mu s).2 = b → ∃ k L, Steps upd rs k s L := by
  intro a
  induction a using Nat.strongRecOn with
  | _ a iha =>
   intro b
   induction b using Nat.strongRecOn with
   | _ b ihb =>
    intro s hP ha hb
    cases e : (roundU upd rs (s, false)).2 with
    | false => exact ⟨0, s, e, rfl⟩
    | true =>
     have hp : P (roundU upd rs (s, false)).1 := roundU_inv upd P rs (s, false) (fun l l' r hr h1 h2 => (hs l l' r hr h1 h2).1) hP
     have hl := roundU_less upd P mu rs (s, false) (mu s) hs hP (.inl ⟨rfl, rfl⟩) e (fun h => by cases h)
     rcases hl with hl | ⟨h1, h2⟩
     ·obtain ⟨k, L, h⟩ := iha _ (by omega) _ _ hp rfl rfl
      exact ⟨k + 1, L, e, h⟩
     ·obtain ⟨k, L, h⟩ := ihb _ (by omega) _ hp (by omega) rfl
      exact ⟨k + 1, L, e, h⟩
 exact fun s h => key _ _ s h rfl rfl
theorem steps_inv {S R : Type} {upd : S → R → Option S} {rs : List R} (P : S → Prop) (hs : ∀ l l' r, r ∈ rs → P l → upd l r = some l' → P l') : ∀ (k : Nat) (s L : S), Steps upd rs k s L → P s → P L := by
 intro k
 induction k with
 | zero => intro s L h hP; rw [h.2]; exact hP
 | succ k ih => intro s L h hP; exact ih _ _ h.2 (roundU_inv upd P rs (s, false) hs hP)
theorem steps_end {S R : Type} {upd : S → R → Option S} {rs : List R} : ∀ (k : Nat) (s L : S), Steps upd rs k s L → ∀ r ∈ rs, upd L r = none := by
 intro k
 induction k with
 | zero => intro s L h; rw [h.2]; exact (roundU_same upd rs s h.1).1
 | succ k ih => intro s L h; exact ih _ _ h.2
theorem sum_set {X : Type} (f : X → Nat) : ∀ (l : List X) (i : Nat) (x d : X), i < l.length → ((l.set i x).map f).sum + f (l.getD i d) = (l.map f).sum + f x := by
 intro l
 induction l with
 | nil => intro i x d h; simp at h
 | cons a l ih =>
  intro i x d h
  cases i with
  | zero => simp; omega
  | succ i =>
   have := ih i x d (by simpa using h)
   simp only [List.set_cons_succ,List.map_cons,List.sum_cons,List.getD_cons_succ]
   omega
theorem getD_setX {X : Type} (l : List X) (k p : Nat) (x d : X) (hk : k < l.length) : (l.set k x).getD p d = if p = k then x else l.getD p d := by
 simp only [Q0,List.getElem?_set]
 by_cases e : p = k
 ·subst e; simp [hk]
 ·have e' : ¬ k = p := fun h => e h.symm
  simp [e, e']
theorem getD_in {X : Type} (l : List X) (k : Nat) (d : X) (hk : k < l.length) : l.getD k d ∈ l := by
 rw [Q0, List.getElem?_eq_getElem hk, Option.getD_some]
 exact List.getElem_mem hk
def far : Int := 1099511627776
def most : Int := 1000000
def lc (l : List (Int × Int)) (s : Int) : Int × Int := if s < 0 then l.getD (-1 - s).toNat (-1, 0) else (1, 0)
def ruleGo (l : List (Int × Int)) : List Int → Int × Int → Option (Int × Int)
 | [], c => some c
 | s :: r, c => if (lc l s).1 < 0 then none else ruleGo l r (min (c.1 + (lc l s).1) far, max c.2 ((lc l s).2 + 1))
def better (c old : Int × Int) : Bool := decide (old.1 < 0) || (decide (c.1 < old.1) || (decide (c.1 = old.1) && decide (c.2 < old.2)))
def cUpd (l : List (Int × Int)) (r : RuleD) : Option (List (Int × Int)) :=
 match ruleGo l r.right (0, 1) with
 | none => none
 | some c => if better c (l.getD r.left.toNat (-1, 0)) = true then some (l.set r.left.toNat c) else none
def yk (y : List Int) (s : Int) : Int := if s < 0 then y.getD (-1 - s).toNat (-1) else 1
def sumGo (y : List Int) : List Int → Int → Int
 | [], n => n
 | s :: r, n => if yk y s < 0 then -1 else sumGo y r (min (n + yk y s) most)
def yUpd (y : List Int) (r : RuleD) : Option (List Int) :=
 if 0 ≤ sumGo y r.right 0 ∧ (y.getD r.left.toNat (-1) < 0 ∨ sumGo y r.right 0 < y.getD r.left.toNat (-1)) then some (y.set r.left.toNat (sumGo y r.right 0)) else none
def hGo (y h : List Int) : List Int → Int → Int → Option (Int × Int)
 | [], n, a => some (n, a)
 | s :: r, n, a => if 0 ≤ s then hGo y h r n (a + 1) else
  if y.getD (-1 - s).toNat (-1) < 0 ∨ h.getD (-1 - s).toNat 0 = 0 then none else hGo y h r (max n (h.getD (-1 - s).toNat 0 + 1)) (min (a + y.getD (-1 - s).toNat (-1)) most)
def heightD (y h : List Int) (r : RuleD) : Int :=
 match hGo y h r.right 1 0 with
 | none => 0
 | some (n, a) => if min a most ≠ y.getD r.left.toNat (-1) then 0 else n
def hUpd (y : List Int) (h : List Int) (r : RuleD) : Option (List Int) :=
 if 0 < heightD y h r ∧ (h.getD r.left.toNat 0 = 0 ∨ heightD y h r < h.getD r.left.toNat 0) then some (h.set r.left.toNat (heightD y h r)) else none
def VR (rs : List RuleD) (n : Nat) : Prop := ∀ r ∈ rs, 0 ≤ r.left ∧ r.left < n ∧ ∀ s ∈ r.right, -(n : Int) ≤ s
section
variable {rs : List RuleD} {n : Nat}
def cm1 (l : List (Int × Int)) : Nat := (l.map fun c => (if c.1 < 0 then far + 1 else c.1).toNat).sum
def cmu (l : List (Int × Int)) : Nat × Nat := (cm1 l, (l.map fun c => c.2.toNat).sum)
structure COk (n : Nat) (l : List (Int × Int)) : Prop where
 len : l.length = n
 rng : ∀ c ∈ l, (c.1 = -1 ∨ (0 ≤ c.1 ∧ c.1 ≤ far)) ∧ 0 ≤ c.2 ∧ c.2 + cm1 l ≤ n * 1099511627777 + 1
theorem ruleGo_rng {l : List (Int × Int)} {B : Int} (hl : ∀ c ∈ l, (c.1 = -1 ∨ (0 ≤ c.1 ∧ c.1 ≤ far)) ∧ 0 ≤ c.2 ∧ c.2 ≤ B) (hB : 0 ≤ B) : ∀ (r : List Int) (a c : Int × Int), ruleGo l r a = some c → 0 ≤ a.1 → a.1 ≤ far → 1 ≤ a.2 → a.2 ≤ B + 1 → 0 ≤ c.1 ∧ c.1 ≤ far ∧ 1 ≤ c.2 ∧ c.2 ≤ B + 1 := by
 intro r
 induction r with
 | nil => intro a c h h1 h2 h3 h4; rw [ruleGo] at h; cases h; exact ⟨h1, h2, h3, h4⟩
 | cons s r ih =>
  intro a c h h1 h2 h3 h4
  rw [ruleGo] at h
  split at h
  ·cases h
  ·rename_i k
   have hk : 0 ≤ (lc l s).2 ∧ (lc l s).2 ≤ B := by
    unfold lc
    split
    ·by_cases q : (-1 - s).toNat < l.length
     ·have := hl _ (getD_in l _ (-1, 0) q)
      exact ⟨this.2.1, this.2.2⟩
     ·have : l.getD (-1 - s).toNat (-1, 0) = (-1, 0) := by simp [Q0, List.getElem?_eq_none (l := l) (i := (-1 - s).toNat) (by omega)]
      rw [this]; exact ⟨Q1 _, hB⟩
    ·exact ⟨Q1 _, hB⟩
   exact ih _ c h (by simp only [far] at *; omega) (by simp only [far] at *; omega) (by simp only; omega) (by simp only; omega)
theorem cUpd_ok (hv : VR rs n) {l l' : List (Int × Int)} {r : RuleD} (hr : r ∈ rs) (hl : COk n l) (h : cUpd l r = some l') : COk n l' ∧ lx (cmu l') (cmu l) := by
 obtain ⟨v1, v2, v3⟩ := hv r hr
 unfold cUpd at h
 split at h
 ·cases h
 rename_i c hc
 split at h
 case isFalse => cases h
 rename_i hb
 cases h
 have li : r.left.toNat < l.length := by rw [hl.len]; omega
 have c1 := sum_set (fun c : Int × Int => (if c.1 < 0 then far + 1 else c.1).toNat) l r.left.toNat c (-1, 0) li
 have c2 := sum_set (fun c : Int × Int => c.2.toNat) l r.left.toNat c (-1, 0) li
 obtain ⟨old, ho⟩ : ∃ o, o = l.getD r.left.toNat (-1, 0) := ⟨_, rfl⟩
 have hold := hl.rng _ (getD_in l _ (-1, 0) li)
 rw [← ho] at c1 c2 hold hb
 have m1 : cm1 (l.set r.left.toNat c) = ((l.set r.left.toNat c).map fun c : Int × Int => (if c.1 < 0 then far + 1 else c.1).toNat).sum := rfl
 have m0 : cm1 l = (l.map fun c : Int × Int => (if c.1 < 0 then far + 1 else c.1).toNat).sum := rfl
 rw [← m1, ← m0] at c1
 obtain ⟨M, hM⟩ : ∃ M : Nat, M = cm1 l := ⟨_, rfl⟩
 have bnd : 0 ≤ (n : Int) * 1099511627777 + 1 - M := by
  have := hold.2.2
  have := hold.2.1
  rw [hM]; omega
 have rg := ruleGo_rng (l := l) (B := (n : Int) * 1099511627777 + 1 - M) (fun c hc => by
  have := hl.rng c hc
  exact ⟨this.1, this.2.1, by rw [hM]; omega⟩) bnd r.right (0, 1) c hc (Q1 _) (by decide) (Q1 _) (by simp only; omega)
 obtain ⟨g1, g2, g3, g4⟩ := rg
 simp only [better,Bool.or_eq_true,Bool.and_eq_true,decide_eq_true_eq] at hb
 have fr : far = 1099511627776 := rfl
 have cpos : ¬ c.1 < 0 := by omega
 rw [if_neg cpos] at c1
 have dec : (cm1 (l.set r.left.toNat c) < M) ∨ (cm1 (l.set r.left.toNat c) = M ∧ c.2 < old.2) := by
  rw [hM]
  rcases hb with hb | hb | ⟨hb1, hb2⟩
  ·rw [if_pos hb] at c1; left; omega
  ·rw [if_neg (by omega)] at c1; left; omega
  ·rw [if_neg (by omega)] at c1; right; exact ⟨by omega, hb2⟩
 refine ⟨⟨by rw [List.length_set]; exact hl.len, fun x hx => ?_⟩, ?_⟩
 ·rcases Q2 hx with h | h
  ·have := hl.rng x h
   refine ⟨this.1, this.2.1, ?_⟩
   have := this.2.2
   rcases dec with d | d <;> omega
  ·rw [h]
   refine ⟨.inr ⟨g1, g2⟩, by omega, ?_⟩
   have := hold.2.2
   rcases dec with d | d <;> omega
 ·unfold lx cmu
  simp only
  rcases dec with d | ⟨d1, d2⟩
  ·left; omega
  ·right; refine ⟨by omega, ?_⟩
   have := hold.2.1
   omega
theorem costs_ex (hv : VR rs n) : ∃ k L, Steps cUpd rs k (Q4 n (-1, 0)) L := by
 refine steps_ex cUpd rs (COk n) cmu (fun l l' r hr h1 h2 => cUpd_ok hv hr h1 h2) _ ⟨by simp, fun c hc => ?_⟩
 rw [Q3 hc]
 refine ⟨.inl rfl, Q1 _, ?_⟩
 have : cm1 (Q4 n ((-1 : Int), (0 : Int))) = n * 1099511627777 := by
  unfold cm1
  rw [List.map_replicate, List.sum_replicate_nat]
  rfl
 rw [this]
 simp only
 omega
def ym1 (y : List Int) : Nat := (y.map fun c => (if c < 0 then most + 1 else c).toNat).sum
structure YOk (n : Nat) (y : List Int) : Prop where
 len : y.length = n
 rng : ∀ c ∈ y, c = -1 ∨ (0 ≤ c ∧ c ≤ most)
theorem sumGo_rng {y : List Int} : ∀ (r : List Int) (a : Int), 0 ≤ a → a ≤ most → sumGo y r a = -1 ∨ (0 ≤ sumGo y r a ∧ sumGo y r a ≤ most) := by
 intro r
 induction r with
 | nil => intro a h1 h2; exact .inr ⟨h1, h2⟩
 | cons s r ih =>
  intro a h1 h2
  rw [sumGo]
  split
  ·exact .inl rfl
  ·exact ih _ (by simp only [most] at *; omega) (by simp only [most] at *; omega)
theorem yUpd_ok (hv : VR rs n) {y y' : List Int} {r : RuleD} (hr : r ∈ rs) (hl : YOk n y) (h : yUpd y r = some y') : YOk n y' ∧ lx (ym1 y', 0) (ym1 y, 0) := by
 obtain ⟨v1, v2, v3⟩ := hv r hr
 unfold yUpd at h
 split at h
 case isFalse => cases h
 rename_i hb
 cases h
 have li : r.left.toNat < y.length := by rw [hl.len]; omega
 have c1 := sum_set (fun c : Int => (if c < 0 then most + 1 else c).toNat) y r.left.toNat (sumGo y r.right 0) (-1) li
 have m1 : ym1 (y.set r.left.toNat (sumGo y r.right 0)) = ((y.set r.left.toNat (sumGo y r.right 0)).map fun c : Int => (if c < 0 then most + 1 else c).toNat).sum := rfl
 have m0 : ym1 y = (y.map fun c : Int => (if c < 0 then most + 1 else c).toNat).sum := rfl
 rw [← m1, ← m0] at c1
 have rg := sumGo_rng (y := y) r.right 0 (Q1 _) (by decide)
 have fr : most = 1000000 := rfl
 refine ⟨⟨by rw [List.length_set]; exact hl.len, fun x hx => ?_⟩, ?_⟩
 ·rcases Q2 hx with h | h
  ·exact hl.rng x h
  ·rw [h]; omega
 ·left
  simp only
  have e0 : (if sumGo y r.right 0 < 0 then most + 1 else sumGo y r.right 0) = sumGo y r.right 0 := if_neg (by omega)
  rw [e0] at c1
  rcases hb.2 with h | h
  ·rw [if_pos h] at c1; omega
  ·by_cases q : y.getD r.left.toNat (-1) < 0
   ·rw [if_pos q] at c1; omega
   ·rw [if_neg q] at c1; omega
theorem yields_ex (hv : VR rs n) : ∃ k L, Steps yUpd rs k (Q4 n (-1)) L := by
 refine steps_ex yUpd rs (YOk n) (fun y => (ym1 y, 0)) (fun l l' r hr h1 h2 => yUpd_ok hv hr h1 h2) _ ⟨by simp, fun c hc => ?_⟩
 exact .inl (Q3 hc)
def hm1 (h : List Int) : Nat := (h.map fun c => if c = 0 then 1 else 0).sum
def hmu (h : List Int) : Nat × Nat := (hm1 h, (h.map Int.toNat).sum)
structure HOk (n : Nat) (h : List Int) : Prop where
 len : h.length = n
 rng : ∀ c ∈ h, 0 ≤ c ∧ c + hm1 h ≤ n + 1
theorem hGo_rng {y h : List Int} {B : Int} (hh : ∀ c ∈ h, 0 ≤ c ∧ c ≤ B) (hB : 0 ≤ B) : ∀ (r : List Int) (m a m' a' : Int), hGo y h r m a = some (m', a') → 1 ≤ m → m ≤ B + 1 → 1 ≤ m' ∧ m' ≤ B + 1 := by
 intro r
 induction r with
 | nil => intro m a m' a' e h1 h2; rw [hGo] at e; cases e; exact ⟨h1, h2⟩
 | cons s r ih =>
  intro m a m' a' e h1 h2
  rw [hGo] at e
  split at e
  ·exact ih _ _ _ _ e h1 h2
  ·split at e
   ·cases e
   ·have hk : 0 ≤ h.getD (-1 - s).toNat 0 ∧ h.getD (-1 - s).toNat 0 ≤ B := by
     by_cases q : (-1 - s).toNat < h.length
     ·exact hh _ (getD_in h _ 0 q)
     ·have : h.getD (-1 - s).toNat 0 = 0 := by simp [Q0, List.getElem?_eq_none (l := h) (i := (-1 - s).toNat) (by omega)]
      rw [this]; exact ⟨Q1 _, hB⟩
    exact ih _ _ _ _ e (by omega) (by omega)
theorem heightD_rng {y h : List Int} {B : Int} (hh : ∀ c ∈ h, 0 ≤ c ∧ c ≤ B) (hB : 0 ≤ B) (r : RuleD) : 0 ≤ heightD y h r ∧ heightD y h r ≤ B + 1 := by
 unfold heightD
 split
 ·omega
 ·rename_i m a e
  have := hGo_rng hh hB r.right 1 0 m a e (Q1 _) (by omega)
  split <;> omega
theorem hUpd_ok (hv : VR rs n) {y h h' : List Int} {r : RuleD} (hr : r ∈ rs) (hl : HOk n h) (e : hUpd y h r = some h') : HOk n h' ∧ lx (hmu h') (hmu h) := by
 obtain ⟨v1, v2, v3⟩ := hv r hr
 unfold hUpd at e
 split at e
 case isFalse => cases e
 rename_i hb
 cases e
 have li : r.left.toNat < h.length := by rw [hl.len]; omega
 obtain ⟨x, hx⟩ : ∃ x, x = heightD y h r := ⟨_, rfl⟩
 rw [← hx] at hb ⊢
 have c1 := sum_set (fun c : Int => if c = 0 then 1 else 0) h r.left.toNat x 0 li
 have c2 := sum_set Int.toNat h r.left.toNat x 0 li
 obtain ⟨old, ho⟩ : ∃ o, o = h.getD r.left.toNat 0 := ⟨_, rfl⟩
 have hold := hl.rng _ (getD_in h _ 0 li)
 rw [← ho] at c1 c2 hold hb
 have m1 : hm1 (h.set r.left.toNat x) = ((h.set r.left.toNat x).map fun c : Int => if c = 0 then 1 else 0).sum := rfl
 have m0 : hm1 h = (h.map fun c : Int => if c = 0 then 1 else 0).sum := rfl
 rw [← m1, ← m0] at c1
 have rg := heightD_rng (y := y) (h := h) (B := (n : Int) + 1 - hm1 h) (fun c hc => by have := hl.rng c hc; omega) (by omega) r
 rw [← hx] at rg
 rw [if_neg (by omega : ¬ x = 0)] at c1
 have dec : (hm1 (h.set r.left.toNat x) < hm1 h) ∨ (hm1 (h.set r.left.toNat x) = hm1 h ∧ x < old) := by
  rcases hb.2 with q | q
  ·rw [if_pos q] at c1; left; omega
  ·rw [if_neg (by omega)] at c1; right; exact ⟨by omega, q⟩
 refine ⟨⟨by rw [List.length_set]; exact hl.len, fun z hz => ?_⟩, ?_⟩
 ·rcases Q2 hz with h | h
  ·have := hl.rng z h
   rcases dec with d | d <;> omega
  ·rw [h]
   rcases dec with d | d <;> omega
 ·unfold lx hmu
  simp only
  rcases dec with d | ⟨d1, d2⟩
  ·left; exact d
  ·right; exact ⟨d1, by omega⟩
theorem heights_ex (hv : VR rs n) (y : List Int) : ∃ k L, Steps (hUpd y) rs k (Q4 n 0) L := by
 refine steps_ex (hUpd y) rs (HOk n) hmu (fun l l' r hr h1 h2 => hUpd_ok hv hr h1 h2) _ ⟨by simp, fun c hc => ?_⟩
 rw [Q3 hc]
 have : hm1 (Q4 n 0) = n := by
  unfold hm1
  rw [List.map_replicate, List.sum_replicate_nat]
  simp
 omega
end
end Go.Proofs.Ytkimloceaihplaa.Ai
namespace Go.Proofs.Ytkimloceaihplaa.Ai
open Go
open Int renaming le_refl → Q0
open List renaming getD_eq_getElem?_getD → Q1, replicate → Q2, eq_of_mem_replicate → Q3, sum_replicate_nat → Q4
set_option linter.unusedVariables false
set_option linter.unusedSimpArgs false
def nx (s : Int) : Nat := (-1 - s).toNat
section
variable {rs : List RuleD} {n : Nat}
theorem cStable {L : List (Int × Int)} {r : RuleD} (h : cUpd L r = none) {c : Int × Int} (hc : ruleGo L r.right (0, 1) = some c) : 0 ≤ (L.getD r.left.toNat (-1, 0)).1 ∧ ¬ c.1 < (L.getD r.left.toNat (-1, 0)).1 ∧ ¬ (c.1 = (L.getD r.left.toNat (-1, 0)).1 ∧ c.2 < (L.getD r.left.toNat (-1, 0)).2) := by
 unfold cUpd at h
 rw [hc] at h
 simp only at h
 split at h
 ·cases h
 ·rename_i hb
  simp only [better,Bool.or_eq_true,Bool.and_eq_true,decide_eq_true_eq] at hb
  refine ⟨by omega, by omega, by omega⟩
theorem yStable {y : List Int} {r : RuleD} (h : yUpd y r = none) (hs : 0 ≤ sumGo y r.right 0) : 0 ≤ y.getD r.left.toNat (-1) ∧ y.getD r.left.toNat (-1) ≤ sumGo y r.right 0 := by
 unfold yUpd at h
 split at h
 ·cases h
 ·omega
theorem hStable {y h : List Int} {r : RuleD} (e : hUpd y h r = none) (hs : 0 < heightD y h r) : h.getD r.left.toNat 0 ≠ 0 ∧ h.getD r.left.toNat 0 ≤ heightD y h r := by
 unfold hUpd at e
 split at e
 ·cases e
 ·omega
theorem sum_cost {y : List Int} {L : List (Int × Int)} : ∀ (r : List Int), (∀ s ∈ r, 0 ≤ yk y s → 0 ≤ (lc L s).1 ∧ min (lc L s).1 most ≤ yk y s) → ∀ (a' : Int) (a : Int × Int), 0 ≤ a.1 → 0 ≤ a' → a' ≤ most → min a.1 most ≤ a' → 0 ≤ sumGo y r a' → ∃ c, ruleGo L r a = some c ∧ min c.1 most ≤ sumGo y r a' := by
 intro r
 induction r with
 | nil => intro _ a' a _ _ _ h3 h4; exact ⟨a, rfl, h3⟩
 | cons s r ih =>
  intro hk a' a h0 h1 h2 h3 h4
  rw [sumGo] at h4 ⊢
  split at h4
  ·omega
  ·rename_i q
   rw [if_neg q]
   obtain ⟨k1, k2⟩ := hk s (by simp) (by omega)
   rw [ruleGo, if_neg (by omega)]
   exact ih (fun x hx => hk x (by simp [hx])) _ _ (by simp only [far] at *; omega) (by simp only [most] at *; omega) (by simp only [most] at *; omega) (by simp only [most,far] at *; omega) h4
theorem cost_sum {y : List Int} {l : List (Int × Int)} : ∀ (r : List Int), (∀ s ∈ r, 0 ≤ (lc l s).1 → 0 ≤ yk y s ∧ yk y s ≤ (lc l s).1) → ∀ (a' : Int) (a c : Int × Int), 0 ≤ a' → a' ≤ a.1 → a' ≤ most → ruleGo l r a = some c → 0 ≤ sumGo y r a' ∧ sumGo y r a' ≤ c.1 := by
 intro r
 induction r with
 | nil => intro _ a' a c h1 h2 h3 h4; rw [ruleGo] at h4; cases h4; exact ⟨h1, h2⟩
 | cons s r ih =>
  intro hk a' a c h1 h2 h3 h4
  rw [ruleGo] at h4
  split at h4
  ·cases h4
  ·rename_i q
   obtain ⟨k1, k2⟩ := hk s (by simp) (by omega)
   rw [sumGo, if_neg (by omega)]
   exact ih (fun x hx => hk x (by simp [hx])) _ _ c (by simp only [most] at *; omega) (by simp only [most,far] at *; omega) (by simp only [most] at *; omega) h4
theorem cost_sum_lt {y : List Int} {l : List (Int × Int)} : ∀ (r : List Int), (∀ s ∈ r, 0 ≤ (lc l s).1 → 0 ≤ yk y s ∧ yk y s ≤ (lc l s).1) → ∀ (a' : Int) (a c : Int × Int), 0 ≤ a' → a' < a.1 → a' ≤ most → ruleGo l r a = some c → c.1 < most → sumGo y r a' < c.1 := by
 intro r
 induction r with
 | nil => intro _ a' a c h1 h2 h3 h4 h5; rw [ruleGo] at h4; cases h4; rw [sumGo]; exact h2
 | cons s r ih =>
  intro hk a' a c h1 h2 h3 h4 h5
  rw [ruleGo] at h4
  split at h4
  ·cases h4
  ·rename_i q
   obtain ⟨k1, k2⟩ := hk s (by simp) (by omega)
   rw [sumGo, if_neg (by omega)]
   by_cases big : min (a.1 + (lc l s).1) far ≤ min (a' + yk y s) most
   ·exfalso
    have := cost_sum (y := y) r (fun x hx => hk x (by simp [hx])) (min (a' + yk y s) most) (min (a.1 + (lc l s).1) far, max a.2 ((lc l s).2 + 1)) c
    -- the partial sum is already too large
    have grow : ∀ (r : List Int) (a c : Int × Int), ruleGo l r a = some c → 0 ≤ a.1 → min a.1 far ≤ c.1 := by
     intro r
     induction r with
     | nil => intro a c h h0; rw [ruleGo] at h; cases h; omega
     | cons s r ih =>
      intro a c h h0
      rw [ruleGo] at h
      split at h
      ·cases h
      ·have := ih _ _ h (by simp only [far] at *; omega)
       simp only [far] at *; omega
    have g := grow r _ c h4 (by simp only [far] at *; omega)
    simp only [most,far] at *; omega
   ·exact ih (fun x hx => hk x (by simp [hx])) _ _ c (by simp only [most] at *; omega) (by simp only; omega) (by simp only [most] at *; omega) h4 h5
theorem sumGo_mono {y : List Int} : ∀ (r : List Int) (a : Int), 0 ≤ a → a ≤ most → 0 ≤ sumGo y r a → a ≤ sumGo y r a := by
 intro r
 induction r with
 | nil => intro a _ _ _; exact Q0 _
 | cons s r ih =>
  intro a h1 h2 h3
  rw [sumGo] at h3 ⊢
  split at h3
  ·omega
  ·rename_i q
   rw [if_neg q]
   have := ih (min (a + yk y s) most) (by simp only [most] at *; omega) (by simp only [most] at *; omega) h3
   simp only [most] at *; omega
theorem hGo_mono {y h : List Int} : ∀ (r : List Int) (m a m' a' : Int), hGo y h r m a = some (m', a') → 0 ≤ a → (min a most ≤ a' ∧ m ≤ m') := by
 intro r
 induction r with
 | nil => intro m a m' a' e h0; rw [hGo] at e; cases e; omega
 | cons s r ih =>
  intro m a m' a' e h0
  rw [hGo] at e
  split at e
  ·have := ih _ _ _ _ e (by omega); simp only [most] at *; omega
  ·split at e
   ·cases e
   ·have := ih _ _ _ _ e (by simp only [most] at *; omega); simp only [most] at *; omega
structure Fix (rs : List RuleD) (n : Nat) (L : List (Int × Int)) (y : List Int) : Prop where
 lenL : L.length = n
 lenY : y.length = n
 kn : ∀ A : Nat, A < n → (0 ≤ (L.getD A (-1, 0)).1 ↔ 0 ≤ y.getD A (-1))
 eq : ∀ A : Nat, A < n → 0 ≤ y.getD A (-1) → y.getD A (-1) = min (L.getD A (-1, 0)).1 most
 cs : ∀ r ∈ rs, cUpd L r = none
 ys : ∀ r ∈ rs, yUpd y r = none
theorem lc_neg {L : List (Int × Int)} {s : Int} (h : s < 0) : lc L s = L.getD (nx s) (-1, 0) := by unfold lc; rw [if_pos h]; rfl
theorem yk_neg {y : List Int} {s : Int} (h : s < 0) : yk y s = y.getD (nx s) (-1) := by unfold yk; rw [if_pos h]; rfl
theorem lc_pos {L : List (Int × Int)} {s : Int} (h : 0 ≤ s) : lc L s = (1, 0) := by unfold lc; rw [if_neg (by omega)]
theorem yk_pos {y : List Int} {s : Int} (h : 0 ≤ s) : yk y s = 1 := by unfold yk; rw [if_neg (by omega)]
theorem fix_of (hv : VR rs n) {k j : Nat} {L : List (Int × Int)} {y : List Int} (hL : Steps cUpd rs k (Q2 n (-1, 0)) L) (hy : Steps yUpd rs j (Q2 n (-1)) y) : Fix rs n L y := by
 have cs := steps_end k _ L hL
 have ys := steps_end j _ y hy
 have cok0 : COk n (Q2 n (-1, 0)) := by
  refine ⟨by simp, fun c hc => ?_⟩
  rw [Q3 hc]
  refine ⟨.inl rfl, Q0 _, ?_⟩
  have : cm1 (Q2 n ((-1 : Int), (0 : Int))) = n * 1099511627777 := by
   unfold cm1
   rw [List.map_replicate, Q4]
   rfl
  rw [this]
  simp only
  omega
 have yok0 : YOk n (Q2 n (-1)) := ⟨by simp, fun c hc => .inl (Q3 hc)⟩
 have okL := steps_inv (COk n) (fun l l' r hr h1 h2 => (cUpd_ok hv hr h1 h2).1) k _ L hL cok0
 have okY := steps_inv (YOk n) (fun l l' r hr h1 h2 => (yUpd_ok hv hr h1 h2).1) j _ y hy yok0
 -- each follows the other
 have p1 : (∀ A : Nat, 0 ≤ y.getD A (-1) → 0 ≤ (L.getD A (-1, 0)).1 ∧ min (L.getD A (-1, 0)).1 most ≤ y.getD A (-1)) := by
  refine (steps_inv (fun y => YOk n y ∧ ∀ A : Nat, 0 ≤ y.getD A (-1) → 0 ≤ (L.getD A (-1, 0)).1 ∧ min (L.getD A (-1, 0)).1 most ≤ y.getD A (-1)) (fun l l' r hr h1 h2 => ⟨(yUpd_ok hv hr h1.1 h2).1, fun A hA => ?_⟩) j _ y hy ⟨yok0, fun A hA => ?_⟩).2
  ·unfold yUpd at h2
   split at h2
   case isFalse => cases h2
   rename_i hb
   cases h2
   obtain ⟨v1, v2, v3⟩ := hv r hr
   have li : r.left.toNat < l.length := by rw [h1.1.len]; omega
   rw [getD_setX _ _ _ _ _ li] at hA ⊢
   split
   ·rename_i e
    subst e
    obtain ⟨c, hc, hm⟩ := sum_cost (y := l) (L := L) r.right (fun s hs h0 => by
     by_cases q : s < 0
     ·rw [lc_neg q]; rw [yk_neg q] at h0 ⊢; exact h1.2 _ h0
     ·rw [lc_pos (by omega), yk_pos (by omega)]; exact ⟨by decide, by decide⟩) 0 (0, 1) (Q0 _) (Q0 _) (by decide) (by decide) hb.1
    have st := cStable (cs r hr) hc
    exact ⟨st.1, by have := st.2.1; simp only [most] at *; omega⟩
   ·rename_i e
    rw [if_neg e] at hA
    exact h1.2 A hA
  ·exfalso
   by_cases q : A < n
   ·simp [Q1, q] at hA
   ·simp [Q1, q] at hA
 have p2 : (∀ A : Nat, 0 ≤ (L.getD A (-1, 0)).1 → 0 ≤ y.getD A (-1) ∧ y.getD A (-1) ≤ (L.getD A (-1, 0)).1) := by
  refine (steps_inv (fun l => COk n l ∧ ∀ A : Nat, 0 ≤ (l.getD A (-1, 0)).1 → 0 ≤ y.getD A (-1) ∧ y.getD A (-1) ≤ (l.getD A (-1, 0)).1) (fun l l' r hr h1 h2 => ⟨(cUpd_ok hv hr h1.1 h2).1, fun A hA => ?_⟩) k _ L hL ⟨cok0, fun A hA => ?_⟩).2
  ·unfold cUpd at h2
   split at h2
   ·cases h2
   rename_i c hc
   split at h2
   case isFalse => cases h2
   rename_i hb
   cases h2
   obtain ⟨v1, v2, v3⟩ := hv r hr
   have li : r.left.toNat < l.length := by rw [h1.1.len]; omega
   rw [getD_setX _ _ _ _ _ li] at hA ⊢
   split
   ·rename_i e
    subst e
    obtain ⟨g1, g2⟩ := cost_sum (y := y) (l := l) r.right (fun s hs h0 => by
     by_cases q : s < 0
     ·rw [yk_neg q]; rw [lc_neg q] at h0 ⊢; exact h1.2 _ h0
     ·rw [lc_pos (by omega), yk_pos (by omega)]; exact ⟨by decide, by decide⟩) 0 (0, 1) c (Q0 _) (Q0 _) (by decide) hc
    have st := yStable (ys r hr) g1
    exact ⟨st.1, by omega⟩
   ·rename_i e
    rw [if_neg e] at hA
    exact h1.2 A hA
  ·exfalso
   by_cases q : A < n
   ·simp [Q1, q] at hA
   ·simp [Q1, q] at hA
 refine ⟨okL.len, okY.len, fun A hA => ⟨fun h => (p2 A h).1, fun h => (p1 A h).1⟩, fun A hA h => ?_, cs, ys⟩
 have a1 := p1 A h
 have a2 := p2 A a1.1
 have a3 := okY.rng _ (getD_in y A (-1) (by rw [okY.len]; exact hA))
 simp only [most] at *
 omega
structure Fix3 (rs : List RuleD) (n : Nat) (L : List (Int × Int)) (y h : List Int) : Prop where
 f : Fix rs n L y
 lenH : h.length = n
 nn : ∀ A : Nat, 0 ≤ h.getD A 0
 kn : ∀ A : Nat, A < n → 0 ≤ y.getD A (-1) → y.getD A (-1) < most → 0 < h.getD A 0 ∧ h.getD A 0 = (L.getD A (-1, 0)).2
 sup : ∀ A : Nat, A < n → 0 < h.getD A 0 → ∃ r ∈ rs, r.left = A ∧ heightD y h r = h.getD A 0
 hs : ∀ r ∈ rs, hUpd y h r = none
theorem hGo_down {y h h' : List Int} (hh : ∀ A : Nat, 0 < h.getD A 0 → 0 < h'.getD A 0 ∧ h'.getD A 0 ≤ h.getD A 0) (hn : ∀ A : Nat, 0 ≤ h.getD A 0) : ∀ (r : List Int) (m m1 a m' a' : Int), hGo y h r m a = some (m', a') → m1 ≤ m → 1 ≤ m1 → ∃ m1', hGo y h' r m1 a = some (m1', a') ∧ m1' ≤ m' ∧ 1 ≤ m1' := by
 intro r
 induction r with
 | nil => intro m m1 a m' a' e h1 h2; rw [hGo] at e; cases e; exact ⟨m1, rfl, h1, h2⟩
 | cons s r ih =>
  intro m m1 a m' a' e h1 h2
  rw [hGo] at e ⊢
  split at e
  ·rename_i q
   rw [if_pos q]
   exact ih _ _ _ _ _ e h1 h2
  ·rename_i q
   rw [if_neg q]
   split at e
   ·cases e
   ·rename_i q2
    have := hn (-1 - s).toNat
    obtain ⟨g1, g2⟩ := hh (-1 - s).toNat (by omega)
    rw [if_neg (by omega)]
    exact ih _ _ _ _ _ e (by omega) (by omega)
theorem fix3_of (hv : VR rs n) {L : List (Int × Int)} {y h : List Int} {k j : Nat} (F : Fix rs n L y) (hL : Steps cUpd rs k (Q2 n (-1, 0)) L) (hh : Steps (hUpd y) rs j (Q2 n 0) h) : Fix3 rs n L y h := by
 have hs := steps_end j _ h hh
 have hok0 : HOk n (Q2 n 0) := by
  refine ⟨by simp, fun c hc => ?_⟩
  rw [Q3 hc]
  have : hm1 (Q2 n 0) = n := by
   unfold hm1
   rw [List.map_replicate, Q4]
   simp
  omega
 have okH := steps_inv (HOk n) (fun l l' r hr h1 h2 => (hUpd_ok hv hr h1 h2).1) j _ h hh hok0
 have nnH : ∀ (h : List Int), HOk n h → ∀ A : Nat, 0 ≤ h.getD A 0 := fun h ok A => by
  by_cases q : A < h.length
  ·exact (ok.rng _ (getD_in h A 0 q)).1
  ·simp [Q1, List.getElem?_eq_none (l := h) (i := A) (by omega)]
 have z0 : ∀ A : Nat, (Q2 n (0 : Int)).getD A 0 = 0 := fun A => by
  by_cases q : A < n <;> simp [Q1, q]
 -- the reference's heights are no less than the costs'
 have p3 : ∀ A : Nat, A < n → 0 < h.getD A 0 → y.getD A (-1) < most → (L.getD A (-1, 0)).2 ≤ h.getD A 0 := by
  refine (steps_inv (fun h => HOk n h ∧ ∀ A : Nat, A < n → 0 < h.getD A 0 → y.getD A (-1) < most → (L.getD A (-1, 0)).2 ≤ h.getD A 0) (fun l l' r hr h1 h2 => ⟨(hUpd_ok hv hr h1.1 h2).1, fun A hA h0 hy => ?_⟩) j _ h hh ⟨hok0, fun A hA h0 => ?_⟩).2
  ·unfold hUpd at h2
   split at h2
   case isFalse => cases h2
   rename_i hb
   cases h2
   obtain ⟨v1, v2, v3⟩ := hv r hr
   have li : r.left.toNat < l.length := by rw [h1.1.len]; omega
   rw [getD_setX _ _ _ _ _ li] at h0 ⊢
   split
   ·rename_i e
    subst e
    obtain ⟨hb1, _⟩ := hb
    unfold heightD at hb1 ⊢
    split at hb1
    ·omega
    rename_i m a hg
    split at hb1
    ·omega
    rename_i ha
    rw [if_neg ha]
    have ha' : min a most = y.getD r.left.toNat (-1) := by simpa using ha
    have alt : a < most := by omega
    -- the cost of the rule
    have key : ∀ (q : List Int), (∀ s ∈ q, -(n : Int) ≤ s) → ∀ (m0 a0 : Int) (b : Int × Int) (m a : Int), hGo y l q m0 a0 = some (m, a) → a < most → b.1 = a0 → 0 ≤ a0 → b.2 ≤ m0 → 1 ≤ m0 → ∃ c, ruleGo L q b = some c ∧ c.1 = a ∧ c.2 ≤ m := by
     intro q
     induction q with
     | nil => intro _ m0 a0 b m a e h1 h2 h3 h4 h5; rw [hGo] at e; cases e; exact ⟨b, rfl, h2, h4⟩
     | cons s q ih =>
      intro hq m0 a0 b m a e g1 g2 g3 g4 g5
      rw [hGo] at e
      split at e
      ·rename_i p
       have mo := hGo_mono q _ _ _ _ e (by omega)
       rw [ruleGo, lc_pos p, if_neg (by decide)]
       exact ih (fun x hx => hq x (by simp [hx])) m0 (a0 + 1) _ m a e g1 (by simp only [most,far] at *; omega) (by omega) (by simp only; omega) g5
      ·rename_i p
       split at e
       ·cases e
       rename_i p2
       have hs0 := hq s (by simp)
       have hA2 : (-1 - s).toNat < n := by omega
       have y0 : 0 ≤ y.getD (-1 - s).toNat (-1) := by omega
       have mo := hGo_mono q _ _ _ _ e (by simp only [most] at *; omega)
       have ylt : y.getD (-1 - s).toNat (-1) < most := by simp only [most] at *; omega
       have yeq := F.eq _ hA2 y0
       have hpos : 0 < l.getD (-1 - s).toNat 0 := by have := nnH l h1.1 (-1 - s).toNat; omega
       have hle := h1.2 _ hA2 hpos ylt
       have lneg : lc L s = L.getD (-1 - s).toNat (-1, 0) := by unfold lc; rw [if_pos (by omega)]
       have kn := (F.kn _ hA2).2 y0
       rw [ruleGo, lneg, if_neg (by omega)]
       exact ih (fun x hx => hq x (by simp [hx])) _ _ _ m a e g1 (by simp only [most,far] at *; omega) (by simp only [most] at *; omega) (by simp only; omega) (by omega)
    obtain ⟨c, hc, c1, c2⟩ := key r.right v3 1 0 (0, 1) m a hg alt rfl (Q0 _) (Q0 _) (Q0 _)
    have st := cStable (F.cs r hr) hc
    have kn : 0 ≤ y.getD r.left.toNat (-1) := (F.kn _ (by omega)).1 st.1
    have eq := F.eq _ (by omega : r.left.toNat < n) kn
    have : c.1 = (L.getD r.left.toNat (-1, 0)).1 := by simp only [most] at *; omega
    omega
   ·rename_i e
    rw [if_neg e] at h0
    exact h1.2 A hA h0 hy
  ·rw [z0] at h0; omega
 -- and no more
 have p4 : ∀ A : Nat, A < n → 0 ≤ (L.getD A (-1, 0)).1 → (L.getD A (-1, 0)).1 = y.getD A (-1) → y.getD A (-1) < most → 0 < h.getD A 0 ∧ h.getD A 0 ≤ (L.getD A (-1, 0)).2 := by
  have base : ∀ A : Nat, 0 ≤ (L.getD A (-1, 0)).1 → 0 ≤ y.getD A (-1) ∧ y.getD A (-1) ≤ (L.getD A (-1, 0)).1 := fun A hA => by
   by_cases q : A < n
   ·have := (F.kn A q).1 hA
    have := F.eq A q this
    omega
   ·simp [Q1, List.getElem?_eq_none (l := L) (i := A) (by rw [F.lenL]; omega)] at hA
  have cok0 : COk n (Q2 n (-1, 0)) := by
   refine ⟨by simp, fun c hc => ?_⟩
   rw [Q3 hc]
   refine ⟨.inl rfl, Q0 _, ?_⟩
   have : cm1 (Q2 n ((-1 : Int), (0 : Int))) = n * 1099511627777 := by
    unfold cm1
    rw [List.map_replicate, Q4]
    rfl
   rw [this]
   simp only
   omega
  have e0 : ∀ A : Nat, ((Q2 n ((-1 : Int), (0 : Int))).getD A (-1, 0)) = (-1, 0) := fun A => by
   by_cases q : A < n <;> simp [Q1, q]
  refine (steps_inv (fun l => COk n l ∧ (∀ A : Nat, 0 ≤ (l.getD A (-1, 0)).1 → 0 ≤ y.getD A (-1) ∧ y.getD A (-1) ≤ (l.getD A (-1, 0)).1) ∧ ∀ A : Nat, A < n → 0 ≤ (l.getD A (-1, 0)).1 → (l.getD A (-1, 0)).1 = y.getD A (-1) → y.getD A (-1) < most → 0 < h.getD A 0 ∧ h.getD A 0 ≤ (l.getD A (-1, 0)).2)
   (fun l l' r hr h1 h2 => ⟨(cUpd_ok hv hr h1.1 h2).1, fun A hA => ?_, fun A hA h0 he hy => ?_⟩) k _ L hL ⟨cok0, fun A hA => ?_, fun A hA h0 => ?_⟩).2.2
  ·unfold cUpd at h2
   split at h2
   ·cases h2
   rename_i c hc
   split at h2
   case isFalse => cases h2
   rename_i hb
   cases h2
   obtain ⟨v1, v2, v3⟩ := hv r hr
   have li : r.left.toNat < l.length := by rw [h1.1.len]; omega
   rw [getD_setX _ _ _ _ _ li] at hA ⊢
   split
   ·rename_i e
    subst e
    obtain ⟨g1, g2⟩ := cost_sum (y := y) (l := l) r.right (fun s hs h0 => by
     by_cases q : s < 0
     ·rw [yk_neg q]; rw [lc_neg q] at h0 ⊢; exact h1.2.1 _ h0
     ·rw [lc_pos (by omega), yk_pos (by omega)]; exact ⟨by decide, by decide⟩) 0 (0, 1) c (Q0 _) (Q0 _) (by decide) hc
    have st := yStable (F.ys r hr) g1
    exact ⟨st.1, by omega⟩
   ·rename_i e
    rw [if_neg e] at hA
    exact h1.2.1 A hA
  ·unfold cUpd at h2
   split at h2
   ·cases h2
   rename_i c hc
   split at h2
   case isFalse => cases h2
   rename_i hb
   cases h2
   obtain ⟨v1, v2, v3⟩ := hv r hr
   have li : r.left.toNat < l.length := by rw [h1.1.len]; omega
   rw [getD_setX _ _ _ _ _ li] at h0 he ⊢
   split
   ·rename_i e
    subst e
    rw [if_pos rfl] at h0 he
    have side : ∀ s ∈ r.right, 0 ≤ (lc l s).1 → 0 ≤ yk y s ∧ yk y s ≤ (lc l s).1 := fun s hs h0 => by
     by_cases q : s < 0
     ·rw [yk_neg q]; rw [lc_neg q] at h0 ⊢; exact h1.2.1 _ h0
     ·rw [lc_pos (by omega), yk_pos (by omega)]; exact ⟨by decide, by decide⟩
    obtain ⟨g1, g2⟩ := cost_sum (y := y) (l := l) r.right side 0 (0, 1) c (Q0 _) (Q0 _) (by decide) hc
    have st := yStable (F.ys r hr) g1
    have sEq : sumGo y r.right 0 = c.1 := by omega
    have key : ∀ (q : List Int), (∀ s ∈ q, -(n : Int) ≤ s) → (∀ s ∈ q, 0 ≤ (lc l s).1 → 0 ≤ yk y s ∧ yk y s ≤ (lc l s).1) → ∀ (b c : Int × Int) (m0 : Int), ruleGo l q b = some c → sumGo y q b.1 = c.1 → c.1 < most → 0 ≤ b.1 → b.1 ≤ most → m0 ≤ b.2 → 1 ≤ m0 → ∃ m, hGo y h q m0 b.1 = some (m, c.1) ∧ m ≤ c.2 ∧ 1 ≤ m := by
     intro q
     induction q with
     | nil => intro _ _ b c m0 e _ _ _ _ g1 g2; rw [ruleGo] at e; cases e; exact ⟨m0, rfl, g1, g2⟩
     | cons s q ih =>
      intro hq hsd b c m0 e es el e1 e2 g1 g2
      rw [ruleGo] at e
      split at e
      ·cases e
      rename_i p
      obtain ⟨k1, k2⟩ := hsd s (by simp) (by omega)
      rw [sumGo, if_neg (by omega)] at es
      have hsd' := fun x (hx : x ∈ q) => hsd x (by simp [hx])
      have yl : yk y s = (lc l s).1 := by
       by_cases w : yk y s < (lc l s).1
       ·exfalso
        by_cases w2 : min (b.1 + yk y s) most < min (b.1 + (lc l s).1) far
        ·have := cost_sum_lt (y := y) q hsd' (min (b.1 + yk y s) most) _ c (by simp only [most] at *; omega) w2 (by simp only [most] at *; omega) e el
         omega
        ·simp only [most,far] at *; omega
       ·omega
      have nn := (cost_sum (y := y) q hsd' (min (b.1 + yk y s) most) _ c (by simp only [most] at *; omega) (by simp only [most,far] at *; omega) (by simp only [most] at *; omega) e).1
      have mo := sumGo_mono (y := y) q (min (b.1 + yk y s) most) (by simp only [most] at *; omega) (by simp only [most] at *; omega) nn
      have small : b.1 + (lc l s).1 < most := by simp only [most] at *; omega
      have eqs : min (b.1 + yk y s) most = min (b.1 + (lc l s).1) far := by simp only [most,far] at *; omega
      rw [eqs] at es
      have b1 : min (b.1 + (lc l s).1) far = b.1 + (lc l s).1 := by simp only [most,far] at *; omega
      by_cases p2 : 0 ≤ s
      ·rw [lc_pos p2] at e es b1 small
       rw [hGo, if_pos p2]
       obtain ⟨m, r1, r2, r3⟩ := ih (fun x hx => hq x (by simp [hx])) hsd' _ c m0 e es el (by simp only [far] at *; omega) (by simp only [most,far] at *; omega) (by simp only; omega) g2
       simp only [b1] at r1
       exact ⟨m, r1, r2, r3⟩
      ·have hs0 := hq s (by simp)
       have hA2 : (-1 - s).toNat < n := by omega
       have lneg : lc l s = l.getD (-1 - s).toNat (-1, 0) := by unfold lc; rw [if_pos (by omega)]
       have yneg : yk y s = y.getD (-1 - s).toNat (-1) := by unfold yk; rw [if_pos (by omega)]
       rw [lneg] at e es b1 small yl p
       rw [yneg] at yl k1
       obtain ⟨hp, hle⟩ := h1.2.2 _ hA2 (by omega) yl.symm (by omega)
       rw [hGo, if_neg p2, if_neg (by omega)]
       obtain ⟨m, r1, r2, r3⟩ := ih (fun x hx => hq x (by simp [hx])) hsd' _ c (max m0 (h.getD (-1 - s).toNat 0 + 1)) e es el (by simp only [far] at *; omega) (by simp only [most,far] at *; omega) (by simp only; omega) (by omega)
       have eqm : min (b.1 + y.getD (-1 - s).toNat (-1)) most = min (b.1 + (l.getD (-1 - s).toNat (-1, 0)).1) far := by rw [yl]; simp only [most,far] at *; omega
       rw [eqm]
       exact ⟨m, r1, r2, r3⟩
    obtain ⟨m, m1, m2, m3⟩ := key r.right v3 side (0, 1) c 1 hc sEq (by omega) (Q0 _) (by decide) (Q0 _) (Q0 _)
    have hD : heightD y h r = m := by
     unfold heightD
     rw [m1]
     simp only
     rw [if_neg (by simp only [most] at *; omega)]
    have st2 := hStable (hs r hr) (by rw [hD]; omega)
    have := nnH h okH r.left.toNat
    rw [hD] at st2
    omega
   ·rename_i e
    rw [if_neg e] at h0 he
    exact h1.2.2 A hA h0 he hy
  ·rw [e0] at hA; simp at hA
  ·rw [e0] at h0; simp at h0
 -- each height has its rule
 have p5 : ∀ A : Nat, A < n → 0 < h.getD A 0 → ∃ r ∈ rs, r.left = A ∧ 0 < heightD y h r ∧ heightD y h r ≤ h.getD A 0 := by
  refine (steps_inv (fun h => HOk n h ∧ ∀ A : Nat, A < n → 0 < h.getD A 0 → ∃ r ∈ rs, r.left = A ∧ 0 < heightD y h r ∧ heightD y h r ≤ h.getD A 0) (fun l l' r hr h1 h2 => ⟨(hUpd_ok hv hr h1.1 h2).1, fun A hA h0 => ?_⟩) j _ h hh ⟨hok0, fun A hA h0 => ?_⟩).2
  ·unfold hUpd at h2
   split at h2
   case isFalse => cases h2
   rename_i hb
   cases h2
   obtain ⟨v1, v2, v3⟩ := hv r hr
   have li : r.left.toNat < l.length := by rw [h1.1.len]; omega
   obtain ⟨x, hx⟩ : ∃ x, x = heightD y l r := ⟨_, rfl⟩
   rw [← hx] at hb h0 ⊢
   have down : ∀ B : Nat, 0 < l.getD B 0 → 0 < (l.set r.left.toNat x).getD B 0 ∧ (l.set r.left.toNat x).getD B 0 ≤ l.getD B 0 := fun B hB => by
    rw [getD_setX _ _ _ _ _ li]
    split
    ·rename_i e; subst e; omega
    ·omega
   have mono : ∀ q : RuleD, 0 < heightD y l q → 0 < heightD y (l.set r.left.toNat x) q ∧ heightD y (l.set r.left.toNat x) q ≤ heightD y l q := fun q hq => by
    unfold heightD at hq ⊢
    split at hq
    ·omega
    rename_i m a hg
    split at hq
    ·omega
    rename_i ha
    obtain ⟨m1, g1, g2, g3⟩ := hGo_down down (nnH l h1.1) q.right 1 1 0 m a hg (Q0 _) (Q0 _)
    rw [g1]
    simp only
    rw [if_neg ha, if_neg ha]
    omega
   rw [getD_setX _ _ _ _ _ li] at h0 ⊢
   split
   ·rename_i e
    subst e
    have := mono r (by rw [← hx]; exact hb.1)
    exact ⟨r, hr, by omega, this.1, by rw [← hx] at this; exact this.2⟩
   ·rename_i e
    rw [if_neg e] at h0
    obtain ⟨q, q1, q2, q3, q4⟩ := h1.2 A hA h0
    have := mono q q3
    exact ⟨q, q1, q2, this.1, by omega⟩
  ·rw [z0] at h0; omega
 refine ⟨F, okH.len, nnH h okH, fun A hA h0 hy => ?_, fun A hA h0 => ?_, hs⟩
 ·have k1 := (F.kn A hA).2 h0
  have k2 := F.eq A hA h0
  have le : (L.getD A (-1, 0)).1 = y.getD A (-1) := by simp only [most] at *; omega
  have a1 := p4 A hA k1 le hy
  have a2 := p3 A hA a1.1 hy
  exact ⟨a1.1, by omega⟩
 ·obtain ⟨r, r1, r2, r3, r4⟩ := p5 A hA h0
  have st := hStable (hs r r1) r3
  have e : r.left.toNat = A := by omega
  rw [e] at st
  exact ⟨r, r1, r2, by omega⟩
end
end Go.Proofs.Ytkimloceaihplaa.Ai
