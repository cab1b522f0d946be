/- Regions whose order is drawn, walked by rewriting: every order that is not settled ahead is tried; all must end alike. -/
import Derived.Test.YtkimloceaihplaamAi27
namespace Go.Proofs.Ytkimloceaihplaa.Ai
open Go
set_option linter.unusedVariables false
set_option linter.unusedSimpArgs false
def Fst (o : Out) (s : St) : Option St := some s
theorem Fst_eq (o : Out) (s : St) : Fst o s = some s := rfl
def eq3 (call : CallT) (l : List AOper) (ws : List (List Nat)) (sw : List (List Bool)) (m k : Nat) (L : List Bool) (t : List AV) (h : AHeap) : Option St := evalDraw (fun i => runOp call (l.getD i default)) ws (swAt sw) m k L ⟨t, h⟩
def dq (call : CallT) (l : List AOper) (ws : List (List Nat)) (sw : List (List Bool)) (m k : Nat) (L : List Bool) : Option St → Option St
 | none => none
 | some s => eq3 call l ws sw m k L s.t s.h
def ds (m : Nat) : Option St → List (Option St) → Option St
 | none, _ => none
 | some s, l => if l.all (fun o => sameI m o (some s)) then some s else none
theorem dq_s (call : CallT) (l : List AOper) (ws : List (List Nat)) (sw : List (List Bool)) (m k : Nat) (L : List Bool) (t : List AV) (h : AHeap) : dq call l ws sw m k L (some ⟨t, h⟩) = eq3 call l ws sw m k L t h := rfl
theorem ds_n (m : Nat) (s : St) : ds m (some s) [] = some s := rfl
theorem ds_c (m : Nat) (s : St) (l : List (Option St)) : ds m (some s) (some s :: l) = ds m (some s) l := by simp [ds, sameI_self]
def dwf {R : Type} (call : CallT) (n : Nat) (F : Out → St → Option R) (fs : List Fr) : Option St → Option R
 | none => none
 | some s => kr call n F fs .normal s
theorem dwf_s {R : Type} (call : CallT) (n : Nat) (F : Out → St → Option R) (fs : List Fr) (s : St) : dwf call n F fs (some s) = kr call n F fs .normal s := rfl
theorem runOp_e (call : CallT) (o : AOper) (t : List AV) (h : AHeap) : runOp call o ⟨t, h⟩ = eq2 call 0 Fst [o] t h [] := by
 simp only [eq2,rk,runOps]
 cases runOp call o ⟨t, h⟩ <;> rfl
theorem e_draw {R : Type} (call : CallT) (n : Nat) (F : Out → St → Option R) (fs : List Fr) (l : List AOper) (ws : List (List Nat)) (sw : List (List Bool)) (t : List AV) (h : AHeap) :
  eq1 call n F (.draw l ws sw) ⟨t, h⟩ fs = dwf call n F fs (eq3 call l ws sw h.length ws.length (List.replicate ws.length false) t h) := by
 simp only [eq1,ek,evalCode,eq3]
 cases evalDraw (fun i => runOp call (l.getD i default)) ws (swAt sw) h.length ws.length (List.replicate ws.length false) ⟨t, h⟩ <;> rfl
theorem eq3_front {call : CallT} {l : List AOper} {ws : List (List Nat)} {sw : List (List Bool)} {m k : Nat} {L : List Bool} {t : List AV} {h : AHeap} (i : Nat) (e : (rdy ws L).find? (frontOk ws (swAt sw) L) = some i) :
  eq3 call l ws sw m (k + 1) L t h = dq call l ws sw m k (L.set i true) (eq2 call 0 Fst [l.getD i default] t h []) := by
 simp only [eq3,evalDraw,e, ← runOp_e]
 cases runOp call (l.getD i default) ⟨t, h⟩ <;> rfl
theorem eq3_stuck {call : CallT} {l : List AOper} {ws : List (List Nat)} {sw : List (List Bool)} {m k : Nat} {L : List Bool} {t : List AV} {h : AHeap} (i : Nat) (rest : List Nat) (e : (rdy ws L).find? (frontOk ws (swAt sw) L) = none) (e2 : rdy ws L = i :: rest) :
  eq3 call l ws sw m (k + 1) L t h = ds m (dq call l ws sw m k (L.set i true) (eq2 call 0 Fst [l.getD i default] t h [])) (rest.map fun j => dq call l ws sw m k (L.set j true) (eq2 call 0 Fst [l.getD j default] t h [])) := by
 have hb : ∀ j, (runOp call (l.getD j default) ⟨t, h⟩).bind (evalDraw (fun i => runOp call (l.getD i default)) ws (swAt sw) m k (L.set j true)) = dq call l ws sw m k (L.set j true) (eq2 call 0 Fst [l.getD j default] t h []) := by
  intro j
  rw [← runOp_e]
  cases runOp call (l.getD j default) ⟨t, h⟩ <;> rfl
 rw [e2] at e
 rw [eq3, evalDraw]
 simp only [e2,e,hb]
 cases dq call l ws sw m k (L.set i true) (eq2 call 0 Fst [l.getD i default] t h []) with
 | none => rfl
 | some s' => simp only [ds,List.all_map,Function.comp_def]
theorem eq3_end {call : CallT} {l : List AOper} {ws : List (List Nat)} {sw : List (List Bool)} {m k : Nat} {L : List Bool} {t : List AV} {h : AHeap} (e2 : rdy ws L = []) : eq3 call l ws sw m k L t h = some ⟨t, h⟩ := by
 cases k with
 | zero => simp [eq3, evalDraw, e2]
 | succ k => simp [eq3, evalDraw, e2]
end Go.Proofs.Ytkimloceaihplaa.Ai
