/- Regions whose order is drawn, walked by rewriting: every order that is not settled ahead is tried; all must end alike. -/
import Derived.Test.YtgeedikghjcebaamAi27
namespace Go.Proofs.Ytgeedikghjcebaa.Ai
open Go
set_option linter.unusedVariables false
set_option linter.unusedSimpArgs false
def Fst (o:Out) (s:St):Option St:=some s
theorem aI1 (o:Out) (s:St):Fst o s=some s:=rfl
def eq3 (call:aA4) (l:List AOper) (ws:List (List Nat)) (sw:List (List Bool)) (m k:Nat) (L:List Bool) (t:List AV) (h:aA0):Option St:=aAY (fun i=>aAL call (l.getD i default)) ws (aFj sw) m k L ⟨t,h⟩
def dq (call:aA4) (l:List AOper) (ws:List (List Nat)) (sw:List (List Bool)) (m k:Nat) (L:List Bool):Option St→Option St
 | none=>none
 | some s=>eq3 call l ws sw m k L s.t s.h
def ds (m:Nat):Option St→List (Option St)→Option St
 | none,_=>none
 | some s,l=>if l.all (fun o=>aDv m o (some s)) then some s else none
theorem aMe (call:aA4) (l:List AOper) (ws:List (List Nat)) (sw:List (List Bool)) (m k:Nat) (L:List Bool) (t:List AV) (h:aA0):dq call l ws sw m k L (some ⟨t,h⟩)=eq3 call l ws sw m k L t h:=rfl
theorem aMc (m:Nat) (s:St):ds m (some s) []=some s:=rfl
theorem aMd (m:Nat) (s:St) (l:List (Option St)):ds m (some s) (some s::l)=ds m (some s) l:=by simp [ds,aOY]
theorem aRm (m:Nat) (a s:St) (l:List (Option St)) (hi:aDv m (some a) (some s)=true):ds m (some s) (some a::l)=ds m (some s) l:=by simp [ds,hi]
def dwf {R:Type} (call:aA4) (n:Nat) (F:Out→St→Option R) (fs:List Fr):Option St→Option R
 | none=>none
 | some s=>kr call n F fs .normal s
theorem aLo {R:Type} (call:aA4) (n:Nat) (F:Out→St→Option R) (fs:List Fr) (s:St):dwf call n F fs (some s)=kr call n F fs .normal s:=rfl
theorem aOB (call:aA4) (o:AOper) (t:List AV) (h:aA0):aAL call o ⟨t,h⟩=eq2 call 0 Fst [o] t h []:=by
 simp only [eq2,rk,aB9]
 cases aAL call o ⟨t,h⟩ <;> rfl
theorem aJj {R:Type} (call:aA4) (n:Nat) (F:Out→St→Option R) (fs:List Fr) (l:List AOper) (ws:List (List Nat)) (sw:List (List Bool)) (t:List AV) (h:aA0) :
  eq1 call n F (.draw l ws sw) ⟨t,h⟩ fs=dwf call n F fs (eq3 call l ws sw h.length ws.length (List.replicate ws.length false) t h):=by
 simp only [eq1,ek,aA9,eq3]
 cases aAY (fun i=>aAL call (l.getD i default)) ws (aFj sw) h.length ws.length (List.replicate ws.length false) ⟨t,h⟩ <;> rfl
theorem aAl {call:aA4} {l:List AOper} {ws:List (List Nat)} {sw:List (List Bool)} {m k:Nat} {L:List Bool} {t:List AV} {h:aA0} (i:Nat) (e:(rdy ws L).find? (aJH ws (aFj sw) L)=some i) :
  eq3 call l ws sw m (k+1) L t h=dq call l ws sw m k (L.set i true) (eq2 call 0 Fst [l.getD i default] t h []):=by
 simp only [eq3,aAY,e,← aOB]
 cases aAL call (l.getD i default) ⟨t,h⟩ <;> rfl
theorem aAK {call:aA4} {l:List AOper} {ws:List (List Nat)} {sw:List (List Bool)} {m k:Nat} {L:List Bool} {t:List AV} {h:aA0} (i:Nat) (rest:List Nat) (e:(rdy ws L).find? (aJH ws (aFj sw) L)=none) (e2:rdy ws L=i::rest) :
  eq3 call l ws sw m (k+1) L t h=ds m (dq call l ws sw m k (L.set i true) (eq2 call 0 Fst [l.getD i default] t h [])) (rest.map fun j=>dq call l ws sw m k (L.set j true) (eq2 call 0 Fst [l.getD j default] t h [])):=by
 have hb:∀ j,(aAL call (l.getD j default) ⟨t,h⟩).bind (aAY (fun i=>aAL call (l.getD i default)) ws (aFj sw) m k (L.set j true))=dq call l ws sw m k (L.set j true) (eq2 call 0 Fst [l.getD j default] t h []):=by
  intro j
  rw [← aOB]
  cases aAL call (l.getD j default) ⟨t,h⟩ <;> rfl
 rw [e2] at e
 rw [eq3,aAY]
 simp only [e2,e,hb]
 cases dq call l ws sw m k (L.set i true) (eq2 call 0 Fst [l.getD i default] t h []) with
 | none=>rfl
 | some s'=>simp only [ds,List.all_map,Function.comp_def]
theorem aHT {call:aA4} {l:List AOper} {ws:List (List Nat)} {sw:List (List Bool)} {m k:Nat} {L:List Bool} {t:List AV} {h:aA0} (e2:rdy ws L=[]):eq3 call l ws sw m k L t h=some ⟨t,h⟩:=by
 cases k with
 | zero=>simp [eq3,aAY,e2]
 | succ k=>simp [eq3,aAY,e2]
end Go.Proofs.Ytgeedikghjcebaa.Ai
