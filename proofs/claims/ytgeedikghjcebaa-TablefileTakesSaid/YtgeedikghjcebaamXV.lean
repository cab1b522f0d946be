/- Readings of arguments, their weights kept. -/
import Derived.Test.YtgeedikghjcebaamAi27
import Derived.SizedLaws
import Derived.Test.YtgeedikghjcebaamXB
import Derived.Test.YtgeedikghjcebaaRows
import Derived.ProofKit
import Derived.WalkKit
import Derived.Test.YtgeedikghjcebaamXL
namespace Go.Proofs.Ytgeedikghjcebaa.Ai
open Go
set_option linter.unusedVariables false
set_option linter.unusedSimpArgs false
section
variable {H : Type} {enc : TypeId × Value → H} {P : Program} {w : World} {n : Nat} {t : TypeId} {cs : List Value} {d : DataW H} {ps : List MemPlace}
end
end Go.Proofs.Ytgeedikghjcebaa.Ai
namespace Go.Proofs.Ytgeedikghjcebaa.Ai
end Go.Proofs.Ytgeedikghjcebaa.Ai
namespace Go.Proofs.Ytgeedikghjcebaa
open Go.ChangeShapes Go.WideShapes Go.ChangeAt Go.RowKit Ai
set_option linter.unusedVariables false
set_option linter.unusedSimpArgs false
set_option maxRecDepth 100000
theorem aVX:ownKnob Try.prog.godebug=none:=by kernel_rfl
theorem aVO:laidOutB Try.prog=true:=by kernel_rfl
theorem aQx {H:Type} {enc:TypeId × Value→H} {P:Program} {f:Func} {s:ChangeSpec} {apart fresh handsOn:Bool} {W W':World} {args:Array Value} {v:Value} {ds gs:List (DataW H)} {before pa pv:List MemPlace}
  (hW:DataW.Whole enc P f.params.toList s.vars apart W args.toList ds gs before) (hb:Below W.heap.size W W')
  (hres:∀ (b:Nat) (sp:Nat→Bool) (hd:Bool),DataW.TrodAll enc P W' b sp hd f.resultTypes.toList (v.resultList f.resultTypes.size) (s.fn H (ds++gs)).results [])
  (hargs:DataW.TrodAll enc P W' 0 (fun b=>decide (b < W.heap.size)) true f.params.toList args.toList (s.fn H (ds++gs)).args pa)
  (hvars:DataW.TrodVars enc P W' (fun b=>decide (b < W.heap.size)) s.vars (s.fn H (ds++gs)).vars pv) (hps:before=pa++pv):s.post enc P f apart fresh handsOn false W args v W':=by
 refine ⟨ds,gs,before,[],pa,pv,hW,hres _ _ _,hargs,hvars,World.keptBut_mono (fun p hp=>⟨hp,?_⟩) (Below.frame hb (· ∈ before)),fun h=>by cases h⟩
 rw [hps,List.mem_append] at hp
 exact Or.inr hp
section
variable {H : Type} {enc : TypeId × Value → H} {w : World} {n : Nat} {cs : List Value} {d : DataW H} {ps : List MemPlace}
theorem aS3 {v : Value} (h : ∀ cs, v ≠ .agg cs) : v.cells = #[v] := by
 cases v <;> first | rfl | exact absurd rfl (h _)
end
end Go.Proofs.Ytgeedikghjcebaa
namespace Go.Proofs.Ytgeedikghjcebaa
open Go.ChangeShapes Go.WideShapes Go.ChangeAt Go.RowKit Ai
set_option linter.unusedVariables false
set_option linter.unusedSimpArgs false
set_option maxRecDepth 100000
section
variable {H : Type} {enc : TypeId × Value → H} {w : World} {n : Nat} {cs : List Value} {d : DataW H} {ps : List MemPlace}
theorem wf8 {k:IntKind} {i:Int} (hk:k=.u8) (h:(Lit.int k i).wf=true):0≤i∧i < 256:=by
 subst hk
 simp only [Lit.wf,Bool.and_eq_true,decide_eq_true_eq] at h
 have:IntKind.u8.min=0:=rfl
 have:IntKind.u8.max=255:=rfl
 omega
theorem aUx {i:Int} (h:0≤i∧i < 256):[AV.int .u8 i]=eB (UInt8.ofNat i.toNat):=by
 unfold eB
 congr 2
 rw [UInt8.toNat_ofNat']
 omega
theorem aTC (h:Tr enc Try.prog w n 5 cs d ps):∃ b:UInt8,Cs w cs (eB b):=by
 obtain ⟨i,_,hw,hc⟩:=aUG Try.underlying5 h
 exact ⟨UInt8.ofNat i.toNat,by rw [← aUx (wf8 rfl hw)];exact hc⟩
theorem aVR:Try.prog.cellsOf 5=1:=by kernel_rfl
theorem aSr (h:Tr enc Try.prog w n 22 cs d ps):∃ l:List UInt8,Cs w cs [.vsl false (eBs l)]:=by
 obtain ⟨xs,g,_,hx⟩:=aSq (X:=UInt8) (en:=eB) Try.underlying22 (by rw [aVR];omega)
  (fun k cs d ps hk hh=>aTC hh) h
 exact ⟨xs,g⟩
theorem aQz {base:Nat} {v:Value} (hv:Value.okWide Try.prog w .any base 22 v) (h:DataW.Trod enc Try.prog w 0 (fun _=>true) true 22 v d ps) :
  ∃ l:List UInt8,PRep (fun _=>True) w v (.vsl false (eBs l)):=by
 obtain ⟨n,h⟩:=h
 have hna:∀ cs,v≠.agg cs:=by
  rintro cs rfl
  unfold Value.okWide at hv
  rw [Try.underlying22] at hv
  unfold Cell.okWide at hv
  rw [Try.underlying22] at hv
  unfold Cell.ok at hv
  rw [Try.underlying22] at hv
  exact hv
 obtain ⟨l,hc⟩:=aSr h
 refine ⟨l,?_⟩
 rw [aS3 hna] at hc
 have:=hc.2 0 _ rfl
 simpa using this
end
end Go.Proofs.Ytgeedikghjcebaa
