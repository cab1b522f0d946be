/- Trees made of their reductions by replacing the last leaf: the same as by recursion. No program in sight. -/
import Derived.Test.YtkimloceaihplaamGA
import Derived.Test.YtkimloceaihplaamTD
namespace Go.Proofs.Ytkimloceaihplaa.Ai
open Go
set_option linter.unusedVariables false
set_option linter.unusedSimpArgs false
end Go.Proofs.Ytkimloceaihplaa.Ai
namespace Go.Proofs.Ytkimloceaihplaa.Ai
open Go
set_option linter.unusedVariables false
set_option linter.unusedSimpArgs false
end Go.Proofs.Ytkimloceaihplaa.Ai
namespace Go.Proofs.Ytkimloceaihplaa.Ai
open Go Go.Proofs
set_option linter.unusedVariables false
set_option linter.unusedSimpArgs false
set_option maxRecDepth 10000
set_option maxHeartbeats 4000000
theorem Enc.flat {t : T} {c : List AV} (h : Enc t c) : c.length = 3 ∧ c.all cellOk = true ∧ c.all pure1 = true := by
 obtain ⟨s, r, ks⟩ := t
 obtain ⟨kv, rfl, hk⟩ := h
 rcases hk with ⟨_, rfl⟩ | ⟨e, rows, rfl, _⟩ <;> exact ⟨rfl, rfl, rfl⟩
theorem Encs.app : ∀ {a b : List T} {x y : List (List AV)}, Encs a x → Encs b y → Encs (a ++ b) (x ++ y)
 | [], b, x, y, h1, h2 => by cases h1; exact h2
 | t :: a, b, x, y, ⟨c, rest, e, h1, h3⟩, h2 => by subst e; exact ⟨c, rest ++ y, rfl, h1, h3.app h2⟩
theorem Encs.all : ∀ {a : List T} {x : List (List AV)}, Encs a x → x.all (fun c => c.length == 3 && c.all cellOk) = true
 | [], x, h => by cases h; rfl
 | t :: a, x, ⟨c, rest, e, h1, h3⟩ => by
  subst e
  obtain ⟨q1, q2, _⟩ := h1.flat
  simp only [List.all_cons,h3.all,q1,q2]; rfl
def OwnT (ks : List T) (v : AV) (h : AHeap) : Prop := (ks = [] ∧ v = .nilS) ∨ (ks ≠ [] ∧ ∃ i ver rows, v = .hsl i ver 0 ks.length none ∧ h[i]? = some (.arr ver 3 false rows) ∧ Encs ks rows)
def KeepT (h h' : AHeap) : Prop := ∀ (j : Nat) (o : AObj), h[j]? = some o → (∀ ver l, o ≠ .arr ver 3 false l) → h'[j]? = some o
theorem KeepT.refl (h : AHeap) : KeepT h h := fun _ _ e _ => e
theorem KeepT.trans {a b c : AHeap} (h : KeepT a b) (k : KeepT b c) : KeepT a c := fun j o e hn => k j o (h j o e hn) hn
theorem OwnT.nil (h : AHeap) : OwnT [] .nilS h := .inl ⟨rfl, rfl⟩
theorem OwnT.app {ks : List T} {v : AV} {h : AHeap} (ho : OwnT ks v h) (l : AHeap) : OwnT ks v (h ++ l) := by
 rcases ho with ⟨h1, h2⟩ | ⟨h1, i, ver, rows, h2, h3, h4⟩
 ·exact .inl ⟨h1, h2⟩
 ·exact .inr ⟨h1, i, ver, rows, h2, get_app h3 l, h4⟩
theorem OwnT.set {ks : List T} {v : AV} {h : AHeap} (ho : OwnT ks v h) {j : Nat} {o : AObj} (hj : h[j]? = some o) (hn : ∀ ver l, o ≠ .arr ver 3 false l) (o' : AObj) : OwnT ks v (h.set j o') := by
 rcases ho with ⟨h1, h2⟩ | ⟨h1, i, ver, rows, h2, h3, h4⟩
 ·exact .inl ⟨h1, h2⟩
 ·exact .inr ⟨h1, i, ver, rows, h2, get_set_ne h3 (fun e => by subst e; rw [h3] at hj; cases hj; exact hn _ _ rfl), h4⟩
theorem OwnT.append {ks : List T} {t : T} {v : AV} {c : List AV} {h : AHeap} (e : Bool) (ho : OwnT ks v h) (hc : Enc t c) (bytes : Nat) (hb : bytes ≤ 1000) (hl : ks.length ≤ 1000000) : ∃ i ver h', aapp h 3 bytes v (.vsl e [c]) = some (.hsl i ver 0 (ks.length + 1) none, h') ∧ OwnT (ks ++ [t]) (.hsl i ver 0 (ks.length + 1) none) h' ∧ KeepT h h' := by
 obtain ⟨q1, q2, _⟩ := hc.flat
 have hel : elemsOf h 3 (.vsl e [c]) = some [c] := by simp [elemsOf, q1]
 have hE : Encs [t] [c] := ⟨c, [], rfl, hc, rfl⟩
 unfold aapp
 rw [hel]
 simp only [Option.elim_some,aappend,List.length_cons,List.length_nil]
 rcases ho with ⟨rfl, rfl⟩ | ⟨h1, i, ver, rows, rfl, h3, h4⟩
 ·have hcd : [c].length * (bytes + 1) ≤ 68719476736 ∧ [c].all (fun c => c.length == 3 && c.all cellOk) = true := ⟨by simp; omega, hE.all⟩
  refine ⟨h.length, 0, h ++ [.arr 0 3 false [c]], by simp only [aappendN,freshArr]; rw [if_pos hcd]; rfl, .inr ⟨by simp, h.length, 0, [c], by simp, by simp, hE⟩, fun j o e _ => get_app e _⟩
 ·have hrl := h4.len
  have hne : ¬ (0 + ks.length + [c].length ≤ rows.length ∧ inRoom (ks.length + [c].length) none = true) := by
   simp only [List.length_cons,List.length_nil]; omega
  have hc1 : True ∧ 0 + ks.length ≤ rows.length := ⟨trivial, by omega⟩
  have htk : (List.drop 0 rows).take ks.length = rows := by rw [List.drop_zero]; exact List.take_of_length_le (by omega)
  have hall := (h4.app hE).all
  have hcd : (rows ++ [c]).length * (bytes + 1) ≤ 68719476736 ∧ (rows ++ [c]).all (fun c => c.length == 3 && c.all cellOk) = true := by
   refine ⟨?_, hall⟩
   have e1 : (rows ++ [c]).length = ks.length + 1 := by simp [hrl]
   rw [e1]
   have : (ks.length + 1) * (bytes + 1) ≤ 1000001 * 1001 := Nat.mul_le_mul (by omega) (by omega)
   omega
  have hlen : (rows ++ [c]).length = ks.length + 1 := by simp [hrl]
  refine ⟨i, ver + 1, h.set i (.arr (ver + 1) 3 false (rows ++ [c])), ?_, .inr ⟨by simp, i, ver + 1, rows ++ [c], by simp, get_set_eq h3, h4.app hE⟩, fun j o e hn => ?_⟩
  ·simp only [aappendN,getArr,h3,if_true]
   rw [if_pos hc1, if_neg hne]
   simp only [htk]
   rw [if_pos hcd, hlen]
   rfl
  ·exact get_set_ne e (fun he => by subst he; rw [h3] at e; cases e; exact hn _ _ rfl)
end Go.Proofs.Ytkimloceaihplaa.Ai
namespace Go.Proofs.Ytkimloceaihplaa.Ai
open Go Go.Proofs
set_option linter.unusedVariables false
set_option linter.unusedSimpArgs false
set_option maxRecDepth 10000
set_option maxHeartbeats 4000000
theorem mapO_c {α β : Type} {f : α → Option β} {a : α} {l : List α} {x : β} {y : List β} (h1 : f a = some x) (h2 : mapO f l = some y) : mapO f (a :: l) = some (x :: y) := by simp only [mapO,h1,h2]
theorem OwnT.freeze {ks : List T} {v : AV} {h : AHeap} (ho : OwnT ks v h) {d : Nat} : ∃ c x, Ai.freeze h (d + 2) v = some (x, c) ∧ ((ks = [] ∧ x = .nilS) ∨ ∃ e rows, x = .vsl e rows ∧ Encs ks rows) := by
 rcases ho with ⟨rfl, rfl⟩ | ⟨h1, i, ver, rows, rfl, h3, h4⟩
 ·exact ⟨true, .nilS, rfl, .inl ⟨rfl, rfl⟩⟩
 ·have hg : getArr h i ver = some (3, false, rows) := by simp only [getArr,h3,if_true]
  have hm : ∀ (ks : List T) (rows : List (List AV)), Encs ks rows → ∃ q, mapO (mapO (Ai.freeze h (d + 1))) rows = some q ∧ q.map (·.map (·.1)) = rows := by
   intro ks
   induction ks with
   | nil => intro rows hr; cases hr; exact ⟨[], rfl, rfl⟩
   | cons t ks ih =>
    intro rows hr
    obtain ⟨c, rest, rfl, hc, hr⟩ := hr
    obtain ⟨q, e1, e2⟩ := ih rest hr
    obtain ⟨s, r, kk⟩ := t
    obtain ⟨kv, rfl, _, _, _, _, hf⟩ := hc.open
    have e3 : mapO (Ai.freeze h (d + 1)) [.int .i64 s, .int .i64 r, kv] = some [(.int .i64 s, true), (.int .i64 r, true), (kv, true)] := mapO_3 rfl rfl (hf h d)
    exact ⟨_, mapO_c e3 e1, by simp [e2]⟩
  obtain ⟨q, e1, e2⟩ := hm ks rows h4
  have := freeze_hsl (c := none) (o := 0) (n := ks.length) hg (by have := h4.len; omega) (d := d + 1) (q := q) (by rw [List.drop_zero, List.take_of_length_le (by have := h4.len; omega)]; exact e1)
  exact ⟨false, _, this, .inr ⟨false, rows, by rw [e2], h4⟩⟩
end Go.Proofs.Ytkimloceaihplaa.Ai
namespace Go.Proofs.Ytkimloceaihplaa.Ai
open Go Go.Proofs
set_option linter.unusedVariables false
set_option linter.unusedSimpArgs false
set_option maxRecDepth 10000
set_option maxHeartbeats 4000000
theorem Enc.kv3 {t : T} {c : List AV} (h : Enc t c) : ∃ kv, c = [.int .i64 t.sym, .int .i64 t.rule, kv] ∧ (kv = .nilS ∨ ∃ e rows, kv = .vsl e rows) := by
 obtain ⟨s, r, ks⟩ := t
 obtain ⟨kv, rfl, h⟩ := h
 refine ⟨kv, rfl, ?_⟩
 rcases h with ⟨_, h⟩ | ⟨e, rows, h, _⟩
 ·exact .inl h
 ·exact .inr ⟨e, rows, h⟩
end Go.Proofs.Ytkimloceaihplaa.Ai
