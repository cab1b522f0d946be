/- Aids for symbolic walks: loops that count up, facts for calls from anywhere. -/
import Derived.Test.YteenffomgdfocaamCAi24
namespace Go.Proofs.Yteenffomgdfocaa.Ai
open Go
set_option linter.unusedVariables false
set_option linter.unusedSimpArgs false
theorem aLV {C:Cfg} (hx:C.ix=fun _=>none) {g:Nat} (hp:C.pu g=true) {fn:AFn} (hP:C.P g=some fn) (n:Nat) {a:List AV} (ha:∀ h,aAk (freeze h 1000) a=some (a.map fun x=>(x,true))) {x y:AV} {c:Bool} {h':aA0}
  (hr:aAS (lim C) n fn a []=some (x,h')) (hf:freeze h' 1000 x=some (y,c)) (H:aA0):lim C (.func g) a H=some (y,H):=by
 refine aFR hp n ?_
 unfold aB5
 have e1:(a.map fun x=>(x,true)).map (·.1)=a:=by rw [List.map_map];exact List.map_id a
 have e2:(a.map fun x=>(x,true)).all (·.2)=true:=by simp
 rw [ha H]
 simp only [e1,e2,Bool.true_or,cond_true,aAa,hx,hP,hr,hf,Option.map_some]
end Go.Proofs.Yteenffomgdfocaa.Ai
