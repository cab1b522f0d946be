/- Take, the reference's; its Right. -/
import Derived.Test.YtgeedikghjcebaamXR
import Derived.Test.YtgeedikghjcebaamXS
import Derived.Test.YtgeedikghjcebaamXQ
namespace Go.Proofs.Ytgeedikghjcebaa.Ai
open Go Go.Proofs
open List renaming length_cons → Q0, length_nil → Q1
set_option linter.unusedVariables false
set_option linter.unusedSimpArgs false
set_option maxRecDepth 10000
set_option maxHeartbeats 4000000
section
variable {p : PackD} {cs : List AV}
theorem aUr (hp:aBh p cs) (kA:RtOk p.a) (kG:RtOk p.g) (hw:p.g.val.length≤1048576) :
  (aBL p→∀ H,lim G0.cfg (.func 16) [.agg cs] H=some (.bool true,H))∧(¬ aBL p→∀ H,lim G0.cfg (.func 16) [.agg cs] H=some (.bool false,H)):=by
 obtain ⟨k1,k2⟩:=aVm hp kA kG hw
 obtain ⟨p1,p2,p3⟩:=hp.cells
 obtain ⟨X,hX⟩:∃ X,X=AObj.arr 0 10 true [cs]:=⟨_,rfl⟩
 have lX:aAd [X] 10 true (.ptr 0 0 0 0)=some (.agg cs):=aB5 (b:=true) (by rw [hX];rfl) p3
 refine ⟨fun k H => ?_,fun k H => ?_⟩
 ·obtain ⟨av,gv,g1,g2,e⟩:=k1 k
  have d0:decide ((0:Int)=0)=true:=rfl
  have st:aAw [X,.arr 0 2 true [[.nilS,.nilS]]] 2 (.ptr 1 0 0 0) (.agg [av,gv])=some [X,.arr 0 2 true [[av,gv]]]:=aB9 (h:=[X,.arr 0 2 true [[.nilS,.nilS]]]) (i:=1) (b:=true) (z:=[.nilS,.nilS]) rfl rfl rfl (by simp [cellsOf]) (by simp only [List.all_cons,List.all_nil,g1.cell.2,g2.cell.2,Bool.and_self])
  refine aAD rfl rfl aLP 1 (fun h=>aCg (hp.fz h 998)) ?_ (fun _=>rfl) H
  rw [aLK]
  simp only [Zaf,Zag,Zam,Zan,Zao,Zbc,Zbd,Zbe,Zbm,Zbo,Zbq,Zbr,Zbs,Zbt,Zbu,Zcj,Zct,Zcu,Zcw,Zcy,Zcz,Zda,Zdb,Zdc,Zdd,Zde,List.set_cons_zero,List.set_cons_succ,List.getD_cons_zero,List.getD_cons_succ,Option.map_some,Zdp,Zeq,decide_true,List.getElem?_cons_zero,List.getElem?_cons_succ,Q0,Q1,if_true,Nat.reduceAdd,Nat.reduceSub,eq_self,true_and,Q0,Q1,List.replicate_succ,List.replicate_zero,List.cons_append,List.nil_append,p1,p3,eq_self,if_true,← hX,lX,e,st,aA5,aA4,aA8,Option.some.injEq,Prod.mk.injEq,true_and,exists_eq']
 ·have e:=k2 k
  have d0:decide ((34:Int)=0)=false:=rfl
  have st:aAw [X,.arr 0 2 true [[.nilS,.nilS]]] 2 (.ptr 1 0 0 0) (.agg [.nilS,.nilS])=some [X,.arr 0 2 true [[.nilS,.nilS]]]:=aB9 (h:=[X,.arr 0 2 true [[.nilS,.nilS]]]) (i:=1) (b:=true) (z:=[.nilS,.nilS]) rfl rfl rfl rfl rfl
  refine aAD rfl rfl aLP 1 (fun h=>aCg (hp.fz h 998)) ?_ (fun _=>rfl) H
  rw [aLK]
  simp only [Zaf,Zag,Zam,Zan,Zao,Zbc,Zbd,Zbe,Zbm,Zbo,Zbq,Zbr,Zbs,Zbt,Zbu,Zcj,Zct,Zcu,Zcw,Zcy,Zcz,Zda,Zdb,Zdc,Zdd,Zde,List.set_cons_zero,List.set_cons_succ,List.getD_cons_zero,List.getD_cons_succ,Option.map_some,Zdp,Zeq,decide_false,List.getElem?_cons_zero,List.getElem?_cons_succ,Q0,Q1,if_true,Nat.reduceAdd,Nat.reduceSub,Int.reduceEq,eq_self,true_and,Q0,Q1,List.replicate_succ,List.replicate_zero,List.cons_append,List.nil_append,p1,p3,eq_self,if_true,← hX,lX,e,st,aA5,aA4,aA8,Option.some.injEq,Prod.mk.injEq,true_and,exists_eq']
end
end Go.Proofs.Ytgeedikghjcebaa.Ai
namespace Go.Proofs.Ytgeedikghjcebaa.Ai
open Go Go.Proofs
set_option linter.unusedVariables false
set_option linter.unusedSimpArgs false
set_option maxRecDepth 10000
set_option maxHeartbeats 4000000
end Go.Proofs.Ytgeedikghjcebaa.Ai
