/- Trees: the functions that only count, walked. -/
import Derived.Test.YtkimloceaihplaamGC
import Derived.Test.YtkimloceaihplaamGA
namespace Go.Proofs.Ytkimloceaihplaa.Ai
open Go Go.Proofs
set_option linter.unusedVariables false
set_option linter.unusedSimpArgs false
set_option maxRecDepth 10000
set_option maxHeartbeats 4000000
end Go.Proofs.Ytkimloceaihplaa.Ai
namespace Go.Proofs.Ytkimloceaihplaa.Ai
open Go Go.Proofs
set_option linter.unusedVariables false
set_option linter.unusedSimpArgs false
set_option maxRecDepth 10000
set_option maxHeartbeats 4000000
def Fr3 (h h' : AHeap) : Prop := ∀ (j : Nat) (c : List (List AV)), h[j]? = some (.arr 0 3 true c) → h'[j]? = some (.arr 0 3 true c)
theorem Fr3.refl (h : AHeap) : Fr3 h h := fun _ _ e => e
theorem Fr3.trans {a b c : AHeap} (h : Fr3 a b) (k : Fr3 b c) : Fr3 a c := fun j r e => k j r (h j r e)
theorem Fr3.set {h : AHeap} {i : Nat} {o : AObj} (ho : h[i]? = some o) (hn : ∀ c, o ≠ .arr 0 3 true c) (o' : AObj) : Fr3 h (h.set i o') := fun j c e => by
 have hij : i ≠ j := fun he => by subst he; rw [ho] at e; cases e; exact hn c rfl
 rw [List.getElem?_set_ne hij]; exact e
theorem Fr3.app (h : AHeap) (l : AHeap) : Fr3 h (h ++ l) := fun j r e => get_app e l
section
variable {X : Type} {N : Nat} {cnt : X → Nat} {l : Nat} {Inv Stop : X → AHeap → Prop} {step : X → T → X × Bool}
end
end Go.Proofs.Ytkimloceaihplaa.Ai
namespace Go.Proofs.Ytkimloceaihplaa.Ai
open Go Go.Proofs
set_option linter.unusedVariables false
set_option linter.unusedSimpArgs false
set_option maxRecDepth 10000
set_option maxHeartbeats 4000000
theorem get_set_ne {α : Type} {h : List α} {i j : Nat} {x y : α} (hj : h[j]? = some x) (hij : i ≠ j) : (h.set i y)[j]? = some x := by rw [List.getElem?_set_ne hij]; exact hj
theorem get_set_eq {α : Type} {h : List α} {i : Nat} {x y : α} (hi : h[i]? = some x) : (h.set i y)[i]? = some y := List.getElem?_set_self (List.getElem?_eq_some_iff.1 hi).1
end Go.Proofs.Ytkimloceaihplaa.Ai
namespace Go.Proofs.Ytkimloceaihplaa.Ai
open Go
set_option linter.unusedVariables false
set_option linter.unusedSimpArgs false
def Own (ys : List Int) (v : AV) (h : AHeap) : Prop := (ys = [] ∧ v = .nilS) ∨ (ys ≠ [] ∧ ∃ i ver, v = .hsl i ver 0 ys.length none ∧ h[i]? = some (.arr ver 1 false (eIs ys)))
def KeepA (h h' : AHeap) : Prop := ∀ (j : Nat) (o : AObj), h[j]? = some o → (∀ ver l, o ≠ .arr ver 1 false l) → h'[j]? = some o
def encL (ys : List Int) : AV := if ys = [] then .nilS else .vsl false (eIs ys)
theorem Own.nil (h : AHeap) : Own [] .nilS h := .inl ⟨rfl, rfl⟩
theorem Own.app {ys : List Int} {v : AV} {h : AHeap} (ho : Own ys v h) (l : AHeap) : Own ys v (h ++ l) := by
 rcases ho with ⟨h1, h2⟩ | ⟨h1, i, ver, h2, h3⟩
 ·exact .inl ⟨h1, h2⟩
 ·exact .inr ⟨h1, i, ver, h2, get_app h3 l⟩
theorem Own.set {ys : List Int} {v : AV} {h : AHeap} (ho : Own ys v h) {j : Nat} {o : AObj} (hj : h[j]? = some o) (hn : ∀ ver l, o ≠ .arr ver 1 false l) (o' : AObj) : Own ys v (h.set j o') := by
 rcases ho with ⟨h1, h2⟩ | ⟨h1, i, ver, h2, h3⟩
 ·exact .inl ⟨h1, h2⟩
 ·refine .inr ⟨h1, i, ver, h2, ?_⟩
  have : j ≠ i := fun e => by subst e; rw [h3] at hj; cases hj; exact hn _ _ rfl
  rw [List.getElem?_set_ne this]; exact h3
theorem eIs_all (zs : List Int) : (eIs zs).all (fun c => c.length == 1 && c.all cellOk) = true := by
 induction zs with
 | nil => rfl
 | cons a z ih => simp [eIs, eI, cellOk]
theorem eIs_append (a b : List Int) : eIs (a ++ b) = eIs a ++ eIs b := by simp [eIs]
theorem Own.append {ys zs : List Int} {v x : AV} {h : AHeap} (ho : Own ys v h) (hx : elemsOf h 1 x = some (eIs zs)) (hl : ys.length + zs.length ≤ 1000000000) : ∃ v' h', aapp h 1 8 v x = some (v', h') ∧ Own (ys ++ zs) v' h' ∧ KeepA h h' := by
 unfold aapp
 rw [hx]
 simp only [Option.elim_some,aappend,Zep]
 by_cases hz : zs.length = 0
 ·have : zs = [] := List.length_eq_zero_iff.1 hz
  subst this
  rw [if_pos hz, List.append_nil]
  rcases ho with ⟨h1, h2⟩ | ⟨h1, i, ver, h2, h3⟩
  ·subst h2; exact ⟨_, _, rfl, .inl ⟨h1, rfl⟩, fun j o e _ => e⟩
  ·subst h2
   refine ⟨_, _, by simp only [aappend0,getArr,h3,if_true,Option.map_some], .inr ⟨h1, i, ver, rfl, h3⟩, fun j o e _ => e⟩
 ·rw [if_neg hz]
  have hzn : zs ≠ [] := fun e => hz (by rw [e]; rfl)
  rcases ho with ⟨h1, h2⟩ | ⟨h1, i, ver, h2, h3⟩
  ·subst h1 h2
   have hc : (eIs zs).length * (8 + 1) ≤ 68719476736 ∧ (eIs zs).all (fun c => c.length == 1 && c.all cellOk) = true := ⟨by rw [Zep]; simp at hl; omega, eIs_all zs⟩
   refine ⟨_, _, by simp only [aappendN,freshArr]; rw [if_pos hc], .inr ⟨by simpa using hzn, h.length, 0, by rw [Zep]; rfl, by simp⟩, fun j o e _ => get_app e _⟩
  ·subst h2
   have hne : ¬ (0 + ys.length + (eIs zs).length ≤ (eIs ys).length ∧ inRoom (ys.length + (eIs zs).length) none = true) := by
    rw [Zep, Zep]; omega
   have hc1 : True ∧ 0 + ys.length ≤ (eIs ys).length := ⟨trivial, by rw [Zep]; omega⟩
   have htk : (List.drop 0 (eIs ys)).take ys.length = eIs ys := by rw [List.drop_zero]; exact List.take_of_length_le (by rw [Zep]; omega)
   have hc : (eIs ys ++ eIs zs).length * (8 + 1) ≤ 68719476736 ∧ (eIs ys ++ eIs zs).all (fun c => c.length == 1 && c.all cellOk) = true := ⟨by rw [List.length_append, Zep, Zep]; omega, by rw [← eIs_append]; exact eIs_all _⟩
   refine ⟨.hsl i (ver + 1) 0 (eIs ys ++ eIs zs).length none, h.set i (.arr (ver + 1) 1 false (eIs ys ++ eIs zs)), ?_, .inr ⟨by simp [h1], i, ver + 1, by rw [List.length_append, Zep, Zep, List.length_append], ?_⟩, fun j o e hn => ?_⟩
   ·simp only [aappendN,getArr,h3,if_true]
    rw [if_pos hc1, if_neg hne]
    simp only [htk]
    rw [if_pos hc]
   ·rw [eIs_append]; exact List.getElem?_set_self (List.getElem?_eq_some_iff.1 h3).1
   ·have : i ≠ j := fun he => by subst he; rw [h3] at e; cases e; exact hn _ _ rfl
    rw [List.getElem?_set_ne this]; exact e
theorem freeze_ints (h : AHeap) (d : Nat) : ∀ ys : List Int, mapO (mapO (freeze h (d + 1))) (eIs ys) = some (ys.map fun y => [(.int .i64 y, true)])
 | [] => rfl
 | y :: ys => by
  have := freeze_ints h d ys
  simp only [eIs,List.map_cons,mapO,eI,freeze] at this ⊢
  rw [this]
theorem freeze_hsl {h : AHeap} {d i v o n sz : Nat} {c : Option Nat} {x : Bool} {l : List (List AV)} {q : List (List (AV × Bool))} (hg : getArr h i v = some (sz, x, l)) (hl : o + n ≤ l.length) (hm : mapO (mapO (freeze h d)) ((l.drop o).take n) = some q) :
  freeze h (d + 1) (.hsl i v o n c) = some (.vsl false (q.map (·.map (·.1))), false) := by
 simp only [freeze,hg]
 rw [if_pos hl, hm]
 rfl
theorem Own.freeze {ys : List Int} {v : AV} {h : AHeap} (ho : Own ys v h) : ∃ c, Ai.freeze h 1000 v = some (encL ys, c) := by
 rcases ho with ⟨h1, h2⟩ | ⟨h1, i, ver, h2, h3⟩
 ·subst h1 h2; exact ⟨true, rfl⟩
 ·subst h2
  refine ⟨false, ?_⟩
  have htk : (List.drop 0 (eIs ys)).take ys.length = eIs ys := by rw [List.drop_zero]; exact List.take_of_length_le (by rw [Zep]; omega)
  have hl : 0 + ys.length ≤ (eIs ys).length := by rw [Zep]; omega
  have hg : getArr h i ver = some (1, false, eIs ys) := by simp only [getArr,h3,if_true]
  have hm : mapO (mapO (Ai.freeze h 999)) (((eIs ys).drop 0).take ys.length) = some (ys.map fun y => [(.int .i64 y, true)]) := by rw [htk]; exact freeze_ints h 998 ys
  have := freeze_hsl (d := 999) (c := none) hg hl hm
  rw [this, encL, if_neg h1]
  congr 2
  simp [eIs, eI, Function.comp_def]
theorem KeepA.refl (h : AHeap) : KeepA h h := fun _ _ e _ => e
theorem KeepA.trans {a b c : AHeap} (h : KeepA a b) (k : KeepA b c) : KeepA a c := fun j o e hn => k j o (h j o e hn) hn
theorem KeepA.app (h l : AHeap) : KeepA h (h ++ l) := fun j o e _ => get_app e l
end Go.Proofs.Ytkimloceaihplaa.Ai
