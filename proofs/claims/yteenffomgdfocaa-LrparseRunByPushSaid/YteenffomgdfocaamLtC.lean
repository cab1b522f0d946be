/-
  LrparseRunByPush: for every grammar, table and word: a run equals the composition of single pushes (or the grammar, table or word is too large or wrong and only the fixed examples are looked at): the law returns true for every input; each argument reads afterwards as it read before. Condition: none.
-/
import Derived.Test.YteenffomgdfocaamXH
import Derived.Test.YteenffomgdfocaamKn1
import Derived.Test.YteenffomgdfocaamXJ
namespace Go.Proofs.Yteenffomgdfocaa
open Go.ChangeShapes Go.WideShapes Go.ChangeAt Go.RowKit Ai
set_option linter.unusedVariables false
set_option linter.unusedSimpArgs false
set_option maxRecDepth 100000
theorem lrparseRunByPush_lifted (os:Os) (started:os.Started) (H:Type) (enc:TypeId × Value→H) :
  ReturnsInHanded {} Try.checked os 3 .any (Rows.lrparseRunByPushSpec.pre6 enc Try.prog Try.f3 Rows.lrparseRunByPushRow.domain false) (Rows.lrparseRunByPushSpec.post enc Try.prog Try.f3 false true false false):=by
 refine returnsInHanded_of_change_sized (C:=Try.checked) aSR started (by kernel_rfl) Try.func3
  (ChangeSpec.witness6 (enc := enc) (C := Try.checked) false ⟨#[], #[.agg #[.slice none 0 0, .slice none 0 0, .slice none 0 0, .slice none 0 0, .slice none 0 0], .agg #[.slice none 0 0, .slice none 0 0], .slice none 0 0], []⟩ 8 (by kernel_rfl) (by kernel_rfl) (by kernel_rfl) (by kernel_rfl)) ?_
 intro W base args ds gs before hval0 hW hcnd hsz _
 have hval:∀ (j:Nat) t v,Try.f3.params[j]?=some t→args[j]?=some v→Value.okWide Try.prog W .any base t v:=hval0
 have hW':=hW
 have hlt:=fun p hp=>hW'.lt p hp
 obtain ⟨pl,q,hA0,hV,rfl,hfz,hnd⟩:=hW
 have hA:DataW.TrodAll enc Try.prog W 0 (fun _=>true) true Try.f3.params.toList args.toList ds pl:=hA0
 have hpar:Try.f3.params.toList=[27,31,32]:=by rw [Try.params3]
 rw [Try.params3] at hA hval
 obtain ⟨v0,v1,v2,d0,d1,d2,p0,p1,p2,rfl,rfl,rfl,h0,h1,h2⟩:=trodAll_three hA
 obtain ⟨rfl,rfl⟩:=trodVars_none hV
 have hW0:∀ k ∈ d0.weights Try.prog 27,k≤reachBytes:=fun k hk=>by
  have:=List.all_eq_true.1 hsz k (DataW.weights_mem_each (j:=0) (t:=27) (d:=d0) rfl rfl k hk)
  simpa using this
 obtain ⟨g,hg,_,r0⟩:=aPe (hval 0 27 v0 rfl rfl) h0 hW0
 obtain ⟨t,av,gv,ha,hgv,hl,r1⟩:=aOb (hval 1 31 v1 rfl rfl) h1
 obtain ⟨w,_,_,r2⟩:=aPd (hval 2 32 v2 rfl rfl) h2
 have hv : aGp (fun _ => True) W #[v0, v1, v2] [.agg (aA8 g), .agg [av, gv], .vsl false (eIs w)] := ⟨rfl, fun j x hj => by
  match j,hj with
  | 0,hj=>simp at hj;subst hj;exact r0
  | 1,hj=>simp at hj;subst hj;exact r1
  | 2,hj=>simp at hj;subst hj;exact r2⟩
 refine (aKM (G:=G0) aRU (aNb ha hgv hg hl aOg (aRV false w) []) (y:=.bool true) (c:=true) rfl hv).mono fun e W' he => ?_
 obtain ⟨v,rfl,hbl,hr⟩:=he
 cases hr
 simp only [List.append_nil] at hW' hlt
 refine ⟨_,rfl,aOa (pa:=p0++(p1++p2)) (pv:=[]) hW' hbl (fun _ _ _=>trodAll_mk1 (shut_bool Try.underlying4 true)) ?_ rfl (by simp)⟩
 exact trodAll_mk3 (Below.trod aOf (by kernel_rfl) (of_decide_eq_true (by kernel_rfl)) h0 hbl (fun x hx=>hlt x (by simp [hx]))) (Below.trod aOf (by kernel_rfl) (of_decide_eq_true (by kernel_rfl)) h1 hbl (fun x hx=>hlt x (by simp [hx]))) (Below.trod aOf (by kernel_rfl) (of_decide_eq_true (by kernel_rfl)) h2 hbl (fun x hx=>hlt x (by simp [hx])))
theorem lrparseRunByPush_holds:Rows.LrparseRunByPushSaid :=
 OpenClaim.holds_of_wide 3 Try.f3 rfl rfl rfl rfl rfl rfl rfl ⟨rfl,rfl,rfl,rfl,rfl⟩ rfl rfl rfl rfl rfl (by kernel_rfl) Try.func3 (by kernel_rfl)
  (of_decide_eq_true (by kernel_rfl)) (by unfold Func.isWrapper;first | (rw [if_pos (by decide +kernel)];kernel_rfl) | (rw [if_neg (by decide +kernel)];exact ⟨rfl,rfl⟩))
  (fun os started H enc _=>lrparseRunByPush_lifted os started H enc)
#print axioms lrparseRunByPush_holds
end Go.Proofs.Yteenffomgdfocaa
