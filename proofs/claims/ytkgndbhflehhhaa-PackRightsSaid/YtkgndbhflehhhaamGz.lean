/- Grammars as data; what the checks of a grammar compute. No program in sight. -/
import Derived.Test.YtkgndbhflehhhaamAi27
import Derived.Test.YtkgndbhflehhhaamAi28
namespace Go.Proofs.Ytkgndbhflehhhaa.Ai
open Go
set_option linter.unusedVariables false
set_option linter.unusedSimpArgs false
theorem lim_flat {C : Cfg} (hx : C.ix = fun _ => none) {g : Nat} (hp : C.pu g = true) {fn : AFn} (hP : C.P g = some fn) (n : Nat) {a : List AV} (ha : ∀ h, mapO (freeze h 1000) a = some (a.map fun x => (x, true))) {x : AV}
  (hr : ∃ h', runFn (lim C) n fn a [] = some (x, h')) (hf : ∀ h, freeze h 1000 x = some (x, true)) (H : AHeap) : lim C (.func g) a H = some (x, H) := by
 obtain ⟨h', hr⟩ := hr
 exact lim_at hx hp hP n ha hr (hf h') H
theorem lim_fz {C : Cfg} (hx : C.ix = fun _ => none) {g : Nat} (hp : C.pu g = true) {fn : AFn} (hP : C.P g = some fn) (n : Nat) {a : List AV} {l : List (AV × Bool)} {H : AHeap} (ha : mapO (freeze H 1000) a = some l) {x y : AV} {c : Bool} {h' : AHeap}
  (hr : runFn (lim C) n fn (l.map (·.1)) [] = some (x, h')) (hf : freeze h' 1000 x = some (y, c)) (hc : (l.all (·.2) || isFlat y) = true) : lim C (.func g) a H = some (y, H) := by
 refine lim_pure hp n ?_
 unfold pureCall
 rw [ha]
 simp only [pureRes,hx,hP,hr,hf,Option.map_some,hc,Bool.true_or,cond_true]
theorem get_app {α : Type} {h : List α} {i : Nat} {x : α} (hb : h[i]? = some x) (l : List α) : (h ++ l)[i]? = some x := by
 rw [List.getElem?_append_left (List.getElem?_eq_some_iff.1 hb).1]; exact hb
theorem get_new {α : Type} (h : List α) (x : α) : (h ++ [x])[h.length]? = some x := by simp
theorem set_new {α : Type} (h : List α) (x y : α) : (h ++ [x]).set h.length y = h ++ [y] := by simp
theorem z0 : ((0 : Nat) : Int) = 0 := rfl
theorem fz_fnc {h : AHeap} {caps : List AV} {bs : List (AV × Bool)} {g : Nat} (d : Nat) (hcp : mapO (freeze h d) caps = some bs) : freeze h (d + 1) (.fn (.func g) [] caps) = some (.fn (.func g) [] (bs.map (·.1)), bs.all (·.2)) := by
 simp [freeze, mapO, hcp]
theorem fz_fnc60 {h : AHeap} {caps : List AV} {bs : List (AV × Bool)} {g : Nat} (hcp : mapO (freeze h 999) caps = some bs) : freeze h 1000 (.fn (.func g) [] caps) = some (.fn (.func g) [] (bs.map (·.1)), bs.all (·.2)) := fz_fnc 999 hcp
theorem mapO_2 {α β : Type} {f : α → Option β} {a b : α} {x y : β} (h1 : f a = some x) (h2 : f b = some y) : mapO f [a, b] = some [x, y] := by simp only [mapO,h1,h2]
theorem mapO_1 {α β : Type} {f : α → Option β} {a : α} {x : β} (h1 : f a = some x) : mapO f [a] = some [x] := by simp only [mapO,h1]
theorem fz_1 {h : AHeap} {a : AV} (h1 : freeze h 1000 a = some (a, true)) : mapO (freeze h 1000) [a] = some ([a].map fun x => (x, true)) := by
 simp only [mapO,h1,List.map_cons,List.map_nil]
theorem fz_2 {h : AHeap} {a b : AV} (h1 : freeze h 1000 a = some (a, true)) (h2 : freeze h 1000 b = some (b, true)) : mapO (freeze h 1000) [a, b] = some ([a, b].map fun x => (x, true)) := by
 simp only [mapO,h1,h2,List.map_cons,List.map_nil]
theorem fz_3 {h : AHeap} {a b c : AV} (h1 : freeze h 1000 a = some (a, true)) (h2 : freeze h 1000 b = some (b, true)) (h3 : freeze h 1000 c = some (c, true)) : mapO (freeze h 1000) [a, b, c] = some ([a, b, c].map fun x => (x, true)) := by
 simp only [mapO,h1,h2,h3,List.map_cons,List.map_nil]
end Go.Proofs.Ytkgndbhflehhhaa.Ai
namespace Go.Proofs.Ytkgndbhflehhhaa.Ai
open Go
set_option linter.unusedVariables false
set_option linter.unusedSimpArgs false
def Own (ys : List Int) (v : AV) (h : AHeap) : Prop := (ys = [] ∧ v = .nilS) ∨ (ys ≠ [] ∧ ∃ i ver, v = .hsl i ver 0 ys.length none ∧ h[i]? = some (.arr ver 1 false (eIs ys)))
def KeepA (h h' : AHeap) : Prop := ∀ (j : Nat) (o : AObj), h[j]? = some o → (∀ ver l, o ≠ .arr ver 1 false l) → h'[j]? = some o
def encL (ys : List Int) : AV := if ys = [] then .nilS else .vsl false (eIs ys)
theorem Own.nil (h : AHeap) : Own [] .nilS h := .inl ⟨rfl, rfl⟩
theorem Own.app {ys : List Int} {v : AV} {h : AHeap} (ho : Own ys v h) (l : AHeap) : Own ys v (h ++ l) := by
 rcases ho with ⟨h1, h2⟩ | ⟨h1, i, ver, h2, h3⟩
 ·exact .inl ⟨h1, h2⟩
 ·exact .inr ⟨h1, i, ver, h2, get_app h3 l⟩
theorem Own.set {ys : List Int} {v : AV} {h : AHeap} (ho : Own ys v h) {j : Nat} {o : AObj} (hj : h[j]? = some o) (hn : ∀ ver l, o ≠ .arr ver 1 false l) (o' : AObj) : Own ys v (h.set j o') := by
 rcases ho with ⟨h1, h2⟩ | ⟨h1, i, ver, h2, h3⟩
 ·exact .inl ⟨h1, h2⟩
 ·refine .inr ⟨h1, i, ver, h2, ?_⟩
  have : j ≠ i := fun e => by subst e; rw [h3] at hj; cases hj; exact hn _ _ rfl
  rw [List.getElem?_set_ne this]; exact h3
theorem eIs_all (zs : List Int) : (eIs zs).all (fun c => c.length == 1 && c.all cellOk) = true := by
 induction zs with
 | nil => rfl
 | cons a z ih => simp [eIs, eI, cellOk]
theorem eIs_append (a b : List Int) : eIs (a ++ b) = eIs a ++ eIs b := by simp [eIs]
theorem Own.append {ys zs : List Int} {v x : AV} {h : AHeap} (ho : Own ys v h) (hx : elemsOf h 1 x = some (eIs zs)) (hl : ys.length + zs.length ≤ 1000000000) : ∃ v' h', aapp h 1 8 v x = some (v', h') ∧ Own (ys ++ zs) v' h' ∧ KeepA h h' := by
 unfold aapp
 rw [hx]
 simp only [Option.elim_some,aappend,Zep]
 by_cases hz : zs.length = 0
 ·have : zs = [] := List.length_eq_zero_iff.1 hz
  subst this
  rw [if_pos hz, List.append_nil]
  rcases ho with ⟨h1, h2⟩ | ⟨h1, i, ver, h2, h3⟩
  ·subst h2; exact ⟨_, _, rfl, .inl ⟨h1, rfl⟩, fun j o e _ => e⟩
  ·subst h2
   refine ⟨_, _, by simp only [aappend0,getArr,h3,if_true,Option.map_some], .inr ⟨h1, i, ver, rfl, h3⟩, fun j o e _ => e⟩
 ·rw [if_neg hz]
  have hzn : zs ≠ [] := fun e => hz (by rw [e]; rfl)
  rcases ho with ⟨h1, h2⟩ | ⟨h1, i, ver, h2, h3⟩
  ·subst h1 h2
   have hc : (eIs zs).length * (8 + 1) ≤ 68719476736 ∧ (eIs zs).all (fun c => c.length == 1 && c.all cellOk) = true := ⟨by rw [Zep]; simp at hl; omega, eIs_all zs⟩
   refine ⟨_, _, by simp only [aappendN,freshArr]; rw [if_pos hc], .inr ⟨by simpa using hzn, h.length, 0, by rw [Zep]; rfl, by simp⟩, fun j o e _ => get_app e _⟩
  ·subst h2
   have hne : ¬ (0 + ys.length + (eIs zs).length ≤ (eIs ys).length ∧ inRoom (ys.length + (eIs zs).length) none = true) := by
    rw [Zep, Zep]; omega
   have hc1 : True ∧ 0 + ys.length ≤ (eIs ys).length := ⟨trivial, by rw [Zep]; omega⟩
   have htk : (List.drop 0 (eIs ys)).take ys.length = eIs ys := by rw [List.drop_zero]; exact List.take_of_length_le (by rw [Zep]; omega)
   have hc : (eIs ys ++ eIs zs).length * (8 + 1) ≤ 68719476736 ∧ (eIs ys ++ eIs zs).all (fun c => c.length == 1 && c.all cellOk) = true := ⟨by rw [List.length_append, Zep, Zep]; omega, by rw [← eIs_append]; exact eIs_all _⟩
   refine ⟨.hsl i (ver + 1) 0 (eIs ys ++ eIs zs).length none, h.set i (.arr (ver + 1) 1 false (eIs ys ++ eIs zs)), ?_, .inr ⟨by simp [h1], i, ver + 1, by rw [List.length_append, Zep, Zep, List.length_append], ?_⟩, fun j o e hn => ?_⟩
   ·simp only [aappendN,getArr,h3,if_true]
    rw [if_pos hc1, if_neg hne]
    simp only [htk]
    rw [if_pos hc]
   ·rw [eIs_append]; exact List.getElem?_set_self (List.getElem?_eq_some_iff.1 h3).1
   ·have : i ≠ j := fun he => by subst he; rw [h3] at e; cases e; exact hn _ _ rfl
    rw [List.getElem?_set_ne this]; exact e
theorem freeze_ints (h : AHeap) (d : Nat) : ∀ ys : List Int, mapO (mapO (freeze h (d + 1))) (eIs ys) = some (ys.map fun y => [(.int .i64 y, true)])
 | [] => rfl
 | y :: ys => by
  have := freeze_ints h d ys
  simp only [eIs,List.map_cons,mapO,eI,freeze] at this ⊢
  rw [this]
theorem freeze_hsl {h : AHeap} {d i v o n sz : Nat} {c : Option Nat} {x : Bool} {l : List (List AV)} {q : List (List (AV × Bool))} (hg : getArr h i v = some (sz, x, l)) (hl : o + n ≤ l.length) (hm : mapO (mapO (freeze h d)) ((l.drop o).take n) = some q) :
  freeze h (d + 1) (.hsl i v o n c) = some (.vsl false (q.map (·.map (·.1))), false) := by
 simp only [freeze,hg]
 rw [if_pos hl, hm]
 rfl
theorem Own.freeze {ys : List Int} {v : AV} {h : AHeap} (ho : Own ys v h) : ∃ c, Ai.freeze h 1000 v = some (encL ys, c) := by
 rcases ho with ⟨h1, h2⟩ | ⟨h1, i, ver, h2, h3⟩
 ·subst h1 h2; exact ⟨true, rfl⟩
 ·subst h2
  refine ⟨false, ?_⟩
  have htk : (List.drop 0 (eIs ys)).take ys.length = eIs ys := by rw [List.drop_zero]; exact List.take_of_length_le (by rw [Zep]; omega)
  have hl : 0 + ys.length ≤ (eIs ys).length := by rw [Zep]; omega
  have hg : getArr h i ver = some (1, false, eIs ys) := by simp only [getArr,h3,if_true]
  have hm : mapO (mapO (Ai.freeze h 999)) (((eIs ys).drop 0).take ys.length) = some (ys.map fun y => [(.int .i64 y, true)]) := by rw [htk]; exact freeze_ints h 998 ys
  have := freeze_hsl (d := 999) (c := none) hg hl hm
  rw [this, encL, if_neg h1]
  congr 2
  simp [eIs, eI, Function.comp_def]
theorem KeepA.refl (h : AHeap) : KeepA h h := fun _ _ e _ => e
theorem KeepA.trans {a b c : AHeap} (h : KeepA a b) (k : KeepA b c) : KeepA a c := fun j o e hn => k j o (h j o e hn) hn
theorem KeepA.app (h l : AHeap) : KeepA h (h ++ l) := fun j o e _ => get_app e l
end Go.Proofs.Ytkgndbhflehhhaa.Ai
namespace Go.Proofs.Ytkgndbhflehhhaa.Ai
open Go
open List renaming getElem?_eq_some_iff → Q0
set_option linter.unusedVariables false
set_option linter.unusedSimpArgs false
theorem get_set_ne {α : Type} {h : List α} {i j : Nat} {x y : α} (hj : h[j]? = some x) (hij : i ≠ j) : (h.set i y)[j]? = some x := by rw [List.getElem?_set_ne hij]; exact hj
theorem get_set_eq {α : Type} {h : List α} {i : Nat} {x y : α} (hi : h[i]? = some x) : (h.set i y)[i]? = some y := List.getElem?_set_self (Q0.1 hi).1
theorem get_len {α : Type} {h : List α} {i : Nat} {x : α} (hi : h[i]? = some x) : i < h.length := (Q0.1 hi).1
theorem hap_get0 {α : Type} (h l : List α) : (h ++ l)[h.length]? = l[0]? := by rw [List.getElem?_append_right (Nat.le_refl _), Nat.sub_self]
theorem hap_get {α : Type} (h l : List α) (k : Nat) : (h ++ l)[h.length + k]? = l[k]? := by rw [List.getElem?_append_right (by omega), Nat.add_sub_cancel_left]
theorem hap_set0 {α : Type} (h l : List α) (x : α) : (h ++ l).set h.length x = h ++ l.set 0 x := by rw [List.set_append_right _ _ (Nat.le_refl _), Nat.sub_self]
theorem hap_set {α : Type} (h l : List α) (k : Nat) (x : α) : (h ++ l).set (h.length + k) x = h ++ l.set k x := by rw [List.set_append_right _ _ (by omega), Nat.add_sub_cancel_left]
theorem ix_hv {h : AHeap} {i ver n : Nat} {sz : Nat} {x : Bool} {rows : List (List AV)} {c : Option Nat} (hi : h[i]? = some (.arr ver sz x rows)) {k : IntKind} {j : Nat} (hj : j < n) : aindexAddr h sz (.hsl i ver 0 n c) (.int k j) = some (.ptr i ver j 0) := by
 have : (0 : Int) ≤ j ∧ (j : Int) < n := by omega
 simp [aindexAddr, getArr, hi, hj]
theorem eIs_get (l : List Int) (j : Nat) (hj : j < l.length) : (eIs l)[j]? = some [.int .i64 l[j]] := by simp [eIs, eI, hj]
theorem eIs_set (l : List Int) (j : Nat) (n : Int) : (eIs l).set j [.int .i64 n] = eIs (l.set j n) := by simp [eIs, eI, List.map_set]
theorem ldI {h : AHeap} {i ver : Nat} {x : Bool} {l : List Int} {tl : List (List AV)} (hi : h[i]? = some (.arr ver 1 x (eIs l ++ tl))) {j : Nat} (hj : j < l.length) : aload h 1 false (.ptr i ver j 0) = some (.int .i64 l[j]) := by
 have e : (eIs l ++ tl)[j]? = some [.int .i64 l[j]] := by rw [List.getElem?_append_left (by rw [Zep]; exact hj), eIs_get l j hj]
 rw [ld_p h 1 i ver j 0 false 1 x _ _ hi e]
 rfl
theorem stI {h : AHeap} {i ver : Nat} {x : Bool} {l : List Int} {tl : List (List AV)} (hi : h[i]? = some (.arr ver 1 x (eIs l ++ tl))) {j : Nat} (hj : j < l.length) (n : Int) : astore h 1 (.ptr i ver j 0) (.int .i64 n) = some (h.set i (.arr ver 1 x (eIs (l.set j n) ++ tl))) := by
 have e : (eIs l ++ tl)[j]? = some [.int .i64 l[j]] := by rw [List.getElem?_append_left (by rw [Zep]; exact hj), eIs_get l j hj]
 rw [st_p h 1 i ver j 0 _ 1 x _ _ hi e rfl (by simp) rfl]
 have e2 : (eIs l ++ tl).set j (putCells [AV.int .i64 l[j]] 0 (cellsOf (.int .i64 n))) = eIs (l.set j n) ++ tl := by
  rw [List.set_append_left _ _ (by rw [Zep]; exact hj)]
  have : putCells [AV.int .i64 l[j]] 0 (cellsOf (.int .i64 n)) = [.int .i64 n] := rfl
  rw [this, eIs_set]
 rw [e2]
theorem set_same {α : Type} {h : List α} {i : Nat} {x : α} (e : h[i]? = some x) : h.set i x = h := by
 obtain ⟨h1, h2⟩ := Q0.1 e
 rw [← h2]; exact List.set_getElem_self h1
theorem set_set {α : Type} (h : List α) (i : Nat) (x y : α) : (h.set i x).set i y = h.set i y := List.set_set ..
end Go.Proofs.Ytkgndbhflehhhaa.Ai
