/-
  TablefileTakes: for every bytes tablefile.Take answers as the specification's Take does, the table or the first error (or there are more than 4000 bytes and only the fixed examples are looked at): the law returns true for every input; each argument reads afterwards as it read before. Condition: none.
-/
import Derived.Test.YtgeedikghjcebaamXU
import Derived.Test.YtgeedikghjcebaamXV
namespace Go.Proofs.Ytgeedikghjcebaa
open Go.ChangeShapes Go.WideShapes Go.ChangeAt Go.RowKit Ai
set_option linter.unusedVariables false
set_option linter.unusedSimpArgs false
set_option maxRecDepth 100000
theorem tablefileTakes_lifted (os:Os) (started:os.Started) (H:Type) (enc:TypeId × Value→H) :
  ReturnsInHanded {} Try.checked os 3 .any (Rows.tablefileTakesSpec.pre6 enc Try.prog Try.f3 Rows.tablefileTakesRow.domain false) (Rows.tablefileTakesSpec.post enc Try.prog Try.f3 false true false false):=by
 refine returnsInHanded_of_change_sized (C:=Try.checked) aVX started (by kernel_rfl) Try.func3
  (ChangeSpec.witness6 (enc := enc) (C := Try.checked) false ⟨#[], #[.slice none 0 0], []⟩ 8 (by kernel_rfl) (by kernel_rfl) (by kernel_rfl) (by kernel_rfl)) ?_
 intro W base args ds gs before hval0 hW hcnd hsz _
 have hval:∀ (j:Nat) t v,Try.f3.params[j]?=some t→args[j]?=some v→Value.okWide Try.prog W .any base t v:=hval0
 have hW':=hW
 have hlt:=fun p hp=>hW'.lt p hp
 obtain ⟨pl,q,hA0,hV,rfl,hfz,hnd⟩:=hW
 have hA:DataW.TrodAll enc Try.prog W 0 (fun _=>true) true Try.f3.params.toList args.toList ds pl:=hA0
 have hpar:Try.f3.params.toList=[22]:=by rw [Try.params3]
 rw [Try.params3] at hA hval
 obtain ⟨v0,d0,rfl,rfl,h0⟩:=trodAll_one hA
 obtain ⟨rfl,rfl⟩:=trodVars_none hV
 obtain ⟨l0,r0⟩:=aQz (hval 0 22 v0 rfl rfl) h0
 have hv : aK5 (fun _ => True) W #[v0] [.vsl false (eBs l0)] := ⟨rfl, fun j x hj => by
  match j,hj with
  | 0,hj=>simp at hj;subst hj;exact r0⟩
 refine (aNV (G:=G0) aUY (aUk (aDj false l0) []) (y:=.bool true) (c:=true) rfl hv).mono fun e W' he => ?_
 obtain ⟨v,rfl,hbl,hr⟩:=he
 cases hr
 simp only [List.append_nil] at hW' hlt
 refine ⟨_,rfl,aQx (pa:=pl) (pv:=[]) hW' hbl (fun _ _ _=>trodAll_mk1 (shut_bool Try.underlying4 true)) ?_ rfl (by simp)⟩
 exact trodAll_mk1 (Below.trod aVO (by kernel_rfl) (of_decide_eq_true (by kernel_rfl)) h0 hbl (fun x hx=>hlt x (by simp [hx])))
theorem tablefileTakes_holds:Rows.TablefileTakesSaid :=
 OpenClaim.holds_of_wide 3 Try.f3 rfl rfl rfl rfl rfl rfl rfl ⟨rfl,rfl,rfl,rfl,rfl⟩ rfl rfl rfl rfl rfl (by kernel_rfl) Try.func3 (by kernel_rfl)
  (of_decide_eq_true (by kernel_rfl)) (by unfold Func.isWrapper;first | (rw [if_pos (by decide +kernel)];kernel_rfl) | (rw [if_neg (by decide +kernel)];exact ⟨rfl,rfl⟩))
  (fun os started H enc _=>tablefileTakes_lifted os started H enc)
#print axioms tablefileTakes_holds
end Go.Proofs.Ytgeedikghjcebaa
