/- Grammars as data; what the checks of a grammar compute. No program in sight. -/
import Derived.Test.YtkgndbhflehhhaapAi27
namespace Go.Proofs.Ytkgndbhflehhhaa.Ai
open Go
set_option linter.unusedVariables false
set_option linter.unusedSimpArgs false

abbrev Str := List UInt8
structure RuleD where
  left : Int
  right : List Int
  fields : List Str
  label : Str
  level : Int
structure LevelD where
  assoc : Int
  terms : List Int
structure GramD where
  terms : List Str
  nonterms : List Str
  origins : List Int
  rules : List RuleD
  levels : List LevelD

abbrev eRule (r : RuleD) : List AV := [.int .i64 r.left, .vsl false (eIs r.right), .vsl false (eSs r.fields), .str r.label, .int .i64 r.level]
abbrev eLevel (l : LevelD) : List AV := [.int .i64 l.assoc, .vsl false (eIs l.terms)]
abbrev eGram (g : GramD) : List AV := [.vsl false (eSs g.terms), .vsl false (eSs g.nonterms), .vsl false (eIs g.origins), .vsl false (g.rules.map eRule), .vsl false (g.levels.map eLevel)]

/-- Sizes that memory allows. -/
structure RuleD.Ok (r : RuleD) : Prop where
  right : r.right.length ≤ maxLen
  fields : r.fields.length ≤ maxLen
  left0 : -9223372036854775808 ≤ r.left ∧ r.left ≤ 9223372036854775807
structure GramD.Ok (g : GramD) : Prop where
  terms : g.terms.length ≤ maxLen
  nonterms : g.nonterms.length ≤ maxLen
  origins : g.origins.length ≤ maxLen
  rules : g.rules.length ≤ maxLen
  levels : g.levels.length ≤ maxLen
  rule : ∀ r ∈ g.rules, r.Ok
  level : ∀ l ∈ g.levels, l.terms.length ≤ maxLen

def isSym (g : GramD) (s : Int) : Bool := decide (s < g.terms.length) && decide (-(g.nonterms.length : Int) ≤ s)
def wsum : List RuleD → Int → Int
  | [], n => n
  | r :: l, n => wsum l (IntKind.i64.wrap (n + r.right.length))
def countsOk (g : GramD) : Bool :=
  decide ((2 : Int) ≤ g.terms.length) && decide ((g.terms.length : Int) ≤ 256) && (decide ((1 : Int) ≤ g.nonterms.length) && decide ((g.nonterms.length : Int) ≤ 512)) && decide ((g.origins.length : Int) = g.nonterms.length) &&
    g.origins.all (fun o => decide (0 ≤ o) && decide (o ≤ 5)) && (decide ((1 : Int) ≤ g.rules.length) && decide ((g.rules.length : Int) ≤ 1024)) && decide ((g.levels.length : Int) ≤ 32) && decide (wsum g.rules 0 ≤ 8192)
def twiceB (l : List Str) : Bool := !decide l.Nodup
def startOk (g : GramD) : Bool :=
  match g.rules with
  | [] => false
  | r :: rest => decide (r.left = 0) && decide ((r.right.length : Int) = 1) && decide (r.right.getD 0 0 < -1) && isSym g (r.right.getD 0 0) && rest.all fun x => decide (x.left ≠ 0)
def badSym (g : GramD) (s : Int) : Bool := !isSym g s || (decide (-1 ≤ s) && decide (s ≤ 1))
def ruleErr (g : GramD) (x : RuleD) (ahead : Int) : Int :=
  if x.left < 0 ∨ (g.nonterms.length : Int) ≤ x.left ∨ x.left < ahead ∨ (32 : Int) < x.right.length then 22
  else if x.right.any (badSym g) = true then 21
  else if (x.fields.length : Int) ≠ 0 ∧ (x.fields.length : Int) ≠ x.right.length then 25
  else if x.level < 0 ∨ (g.levels.length : Int) < x.level then 24
  else 0
def rulesErr (g : GramD) : List RuleD → Int → Int
  | [], _ => 0
  | x :: l, ahead => if ruleErr g x ahead ≠ 0 then ruleErr g x ahead else rulesErr g l x.left
def termsGo (T : Nat) : List Int → List Int → Option (List Int)
  | [], seen => some seen
  | t :: l, seen => if t < 2 ∨ (T : Int) ≤ t ∨ t ∈ seen then none else termsGo T l (t :: seen)
def levelsGo (T : Nat) : List LevelD → List Int → Bool
  | [], _ => true
  | x :: l, seen =>
    if x.assoc < 1 ∨ 4 < x.assoc then false else
    match termsGo T x.terms seen with
    | some s => levelsGo T l s
    | none => false
/-- The first error of a grammar, or 0. -/
def gramErr (g : GramD) : Int :=
  if countsOk g = false then 9
  else if twiceB g.terms = true ∨ twiceB g.nonterms = true then 8
  else if startOk g = false then 23
  else if rulesErr g g.rules 0 ≠ 0 then rulesErr g g.rules 0
  else if levelsGo g.terms.length g.levels [] = true then 0 else 24

/-! ### Calls of functions apart from the caller's memory -/
theorem lim_flat {C : Cfg} (hx : C.ix = fun _ => none) {g : Nat} (hp : C.pu g = true) {fn : AFn} (hP : C.P g = some fn) (n : Nat) {a : List AV} (ha : ∀ h, mapO (freeze h 1000) a = some (a.map fun x => (x, true))) {x : AV}
    (hr : ∃ h', runFn (lim C) n fn a [] = some (x, h')) (hf : ∀ h, freeze h 1000 x = some (x, true)) (H : AHeap) : lim C (.func g) a H = some (x, H) := by
  obtain ⟨h', hr⟩ := hr
  exact lim_at hx hp hP n ha hr (hf h') H

theorem lim_fz {C : Cfg} (hx : C.ix = fun _ => none) {g : Nat} (hp : C.pu g = true) {fn : AFn} (hP : C.P g = some fn) (n : Nat) {a : List AV} {l : List (AV × Bool)} {H : AHeap} (ha : mapO (freeze H 1000) a = some l) {x y : AV} {c : Bool} {h' : AHeap}
    (hr : runFn (lim C) n fn (l.map (·.1)) [] = some (x, h')) (hf : freeze h' 1000 x = some (y, c)) (hc : (l.all (·.2) || isFlat y) = true) : lim C (.func g) a H = some (y, H) := by
  refine lim_pure hp n ?_
  unfold pureCall
  rw [ha]
  simp only [pureRes,hx,hP,hr,hf,Option.map_some,hc,Bool.true_or,cond_true]

theorem get_app {α : Type} {h : List α} {i : Nat} {x : α} (hb : h[i]? = some x) (l : List α) : (h ++ l)[i]? = some x := by
  rw [List.getElem?_append_left (List.getElem?_eq_some_iff.1 hb).1]; exact hb
theorem get_new {α : Type} (h : List α) (x : α) : (h ++ [x])[h.length]? = some x := by simp
theorem set_new {α : Type} (h : List α) (x y : α) : (h ++ [x]).set h.length y = h ++ [y] := by simp
theorem z0 : ((0 : Nat) : Int) = 0 := rfl
theorem fz_fn {h : AHeap} {caps : List AV} {g : Nat} (d : Nat) (hcp : mapO (freeze h d) caps = some (caps.map fun x => (x, true))) : freeze h (d + 1) (.fn (.func g) [] caps) = some (.fn (.func g) [] caps, true) := by
  simp [freeze, mapO, hcp, Function.comp_def]
theorem fz_fnc {h : AHeap} {caps : List AV} {bs : List (AV × Bool)} {g : Nat} (d : Nat) (hcp : mapO (freeze h d) caps = some bs) : freeze h (d + 1) (.fn (.func g) [] caps) = some (.fn (.func g) [] (bs.map (·.1)), bs.all (·.2)) := by
  simp [freeze, mapO, hcp]
theorem fz_vsl (h : AHeap) (e : Bool) (l : List (List AV)) : freeze h 1000 (.vsl e l) = some (.vsl e l, true) := rfl
theorem fz_fnc60 {h : AHeap} {caps : List AV} {bs : List (AV × Bool)} {g : Nat} (hcp : mapO (freeze h 999) caps = some bs) : freeze h 1000 (.fn (.func g) [] caps) = some (.fn (.func g) [] (bs.map (·.1)), bs.all (·.2)) := fz_fnc 999 hcp
theorem mapO_2 {α β : Type} {f : α → Option β} {a b : α} {x y : β} (h1 : f a = some x) (h2 : f b = some y) : mapO f [a, b] = some [x, y] := by simp only [mapO,h1,h2]
theorem mapO_1 {α β : Type} {f : α → Option β} {a : α} {x : β} (h1 : f a = some x) : mapO f [a] = some [x] := by simp only [mapO,h1]
theorem mapO_3 {α β : Type} {f : α → Option β} {a b c : α} {x y z : β} (h1 : f a = some x) (h2 : f b = some y) (h3 : f c = some z) : mapO f [a, b, c] = some [x, y, z] := by simp only [mapO,h1,h2,h3]
theorem fz_1 {h : AHeap} {a : AV} (h1 : freeze h 1000 a = some (a, true)) : mapO (freeze h 1000) [a] = some ([a].map fun x => (x, true)) := by
  simp only [mapO,h1,List.map_cons,List.map_nil]
theorem fz_2 {h : AHeap} {a b : AV} (h1 : freeze h 1000 a = some (a, true)) (h2 : freeze h 1000 b = some (b, true)) : mapO (freeze h 1000) [a, b] = some ([a, b].map fun x => (x, true)) := by
  simp only [mapO,h1,h2,List.map_cons,List.map_nil]
theorem fz_3 {h : AHeap} {a b c : AV} (h1 : freeze h 1000 a = some (a, true)) (h2 : freeze h 1000 b = some (b, true)) (h3 : freeze h 1000 c = some (c, true)) : mapO (freeze h 1000) [a, b, c] = some ([a, b, c].map fun x => (x, true)) := by
  simp only [mapO,h1,h2,h3,List.map_cons,List.map_nil]
theorem fz_gram (g : GramD) (h : AHeap) : freeze h 1000 (.agg (eGram g)) = some (.agg (eGram g), true) := by simp [freeze, mapO]
theorem fz_rule (r : RuleD) (h : AHeap) : freeze h 1000 (.agg (eRule r)) = some (.agg (eRule r), true) := by simp [freeze, mapO]
end Go.Proofs.Ytkgndbhflehhhaa.Ai
