/- The fixed examples of the tree laws, by computation. -/
import Derived.Test.YtkimloceaihplaamFn
namespace Go.Proofs.Ytkimloceaihplaa.Ai
open Go Go.Proofs
set_option maxRecDepth 1000000
theorem knows_run : pureRes G0.cfg (callT G0.cfg 199) 199 11 [] = some (.bool true) := by kernel_rfl
theorem knows (H : AHeap) : lim G0.cfg (.func 11) [] H = some (.bool true, H) := by
 have hp : G0.cfg.pu 11 = true := rfl
 have e : callT G0.cfg (199 + 1) (.func 11) [] H = pureCall G0.cfg (callT G0.cfg 199) 199 11 [] H := by simp only [callT,hp,if_true]
 refine lim_of (k := 199 + 1) (e.trans ?_)
 have hm : mapO (freeze H 1000) [] = some [] := rfl
 simp only [pureCall,hm,List.map_nil,knows_run,List.all_nil,Bool.true_or,cond_true]
end Go.Proofs.Ytkimloceaihplaa.Ai
