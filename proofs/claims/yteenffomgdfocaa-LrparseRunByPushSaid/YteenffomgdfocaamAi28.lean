/- Regions whose order is drawn, walked by rewriting: every order that is not settled ahead is tried; all must end alike. -/
import Derived.Test.YteenffomgdfocaamAi27
namespace Go.Proofs.Yteenffomgdfocaa.Ai
open Go
set_option linter.unusedVariables false
set_option linter.unusedSimpArgs false
def Fst (o:Out) (s:St):Option St:=some s
theorem aJD (o:Out) (s:St):Fst o s=some s:=rfl
def eq3 (call:aAc) (l:List AOper) (ws:List (List Nat)) (sw:List (List Bool)) (m k:Nat) (L:List Bool) (t:List AV) (h:aA0):Option St:=aAK (fun i=>aAw call (l.getD i default)) ws (aEK sw) m k L ⟨t,h⟩
def dq (call:aAc) (l:List AOper) (ws:List (List Nat)) (sw:List (List Bool)) (m k:Nat) (L:List Bool):Option St→Option St
 | none=>none
 | some s=>eq3 call l ws sw m k L s.t s.h
def ds (m:Nat):Option St→List (Option St)→Option St
 | none,_=>none
 | some s,l=>if l.all (fun o=>aFB m o (some s)) then some s else none
theorem aOq (call:aAc) (l:List AOper) (ws:List (List Nat)) (sw:List (List Bool)) (m k:Nat) (L:List Bool) (t:List AV) (h:aA0):dq call l ws sw m k L (some ⟨t,h⟩)=eq3 call l ws sw m k L t h:=rfl
theorem aOo (m:Nat) (s:St):ds m (some s) []=some s:=rfl
theorem aOp (m:Nat) (s:St) (l:List (Option St)):ds m (some s) (some s::l)=ds m (some s) l:=by simp [ds,aO2]
def dwf {R:Type} (call:aAc) (n:Nat) (F:Out→St→Option R) (fs:List Fr):Option St→Option R
 | none=>none
 | some s=>kr call n F fs .normal s
theorem aLB {R:Type} (call:aAc) (n:Nat) (F:Out→St→Option R) (fs:List Fr) (s:St):dwf call n F fs (some s)=kr call n F fs .normal s:=rfl
theorem aNH (call:aAc) (o:AOper) (t:List AV) (h:aA0):aAw call o ⟨t,h⟩=eq2 call 0 Fst [o] t h []:=by
 simp only [eq2,rk,aAJ]
 cases aAw call o ⟨t,h⟩ <;> rfl
theorem aSa {R:Type} (call:aAc) (n:Nat) (F:Out→St→Option R) (fs:List Fr) (l:List AOper) (ws:List (List Nat)) (sw:List (List Bool)) (t:List AV) (h:aA0) :
  eq1 call n F (.draw l ws sw) ⟨t,h⟩ fs=dwf call n F fs (eq3 call l ws sw h.length ws.length (List.replicate ws.length false) t h):=by
 simp only [eq1,ek,aA1,eq3]
 cases aAK (fun i=>aAw call (l.getD i default)) ws (aEK sw) h.length ws.length (List.replicate ws.length false) ⟨t,h⟩ <;> rfl
theorem aDD {call:aAc} {l:List AOper} {ws:List (List Nat)} {sw:List (List Bool)} {m k:Nat} {L:List Bool} {t:List AV} {h:aA0} (i:Nat) (e:(rdy ws L).find? (aIb ws (aEK sw) L)=some i) :
  eq3 call l ws sw m (k+1) L t h=dq call l ws sw m k (L.set i true) (eq2 call 0 Fst [l.getD i default] t h []):=by
 simp only [eq3,aAK,e,← aNH]
 cases aAw call (l.getD i default) ⟨t,h⟩ <;> rfl
theorem aGf {call:aAc} {l:List AOper} {ws:List (List Nat)} {sw:List (List Bool)} {m k:Nat} {L:List Bool} {t:List AV} {h:aA0} (i:Nat) (rest:List Nat) (e:(rdy ws L).find? (aIb ws (aEK sw) L)=none) (e2:rdy ws L=i::rest) :
  eq3 call l ws sw m (k+1) L t h=ds m (dq call l ws sw m k (L.set i true) (eq2 call 0 Fst [l.getD i default] t h [])) (rest.map fun j=>dq call l ws sw m k (L.set j true) (eq2 call 0 Fst [l.getD j default] t h [])):=by
 have hb:∀ j,(aAw call (l.getD j default) ⟨t,h⟩).bind (aAK (fun i=>aAw call (l.getD i default)) ws (aEK sw) m k (L.set j true))=dq call l ws sw m k (L.set j true) (eq2 call 0 Fst [l.getD j default] t h []):=by
  intro j
  rw [← aNH]
  cases aAw call (l.getD j default) ⟨t,h⟩ <;> rfl
 rw [e2] at e
 rw [eq3,aAK]
 simp only [e2,e,hb]
 cases dq call l ws sw m k (L.set i true) (eq2 call 0 Fst [l.getD i default] t h []) with
 | none=>rfl
 | some s'=>simp only [ds,List.all_map,Function.comp_def]
theorem aRt {call:aAc} {l:List AOper} {ws:List (List Nat)} {sw:List (List Bool)} {m k:Nat} {L:List Bool} {t:List AV} {h:aA0} (e2:rdy ws L=[]):eq3 call l ws sw m k L t h=some ⟨t,h⟩:=by
 cases k with
 | zero=>simp [eq3,aAK,e2]
 | succ k=>simp [eq3,aAK,e2]
end Go.Proofs.Yteenffomgdfocaa.Ai
