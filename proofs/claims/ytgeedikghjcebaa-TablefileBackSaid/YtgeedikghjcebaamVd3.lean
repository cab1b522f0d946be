/-
  TablefileBack: for every table and every bytes: what Put writes Take reads back as the same table, Put refuses a right table with ErrRange alone, and the bytes that Take reads Put writes again (or the table or the bytes are too many and only the fixed examples are looked at): the law returns true for every input; each argument reads afterwards as it read before. Condition: none.
-/
import Derived.Test.YtgeedikghjcebaamXU
import Derived.Test.YtgeedikghjcebaamXV
namespace Go.Proofs.Ytgeedikghjcebaa
open Go.ChangeShapes Go.WideShapes Go.ChangeAt Go.RowKit Ai
set_option linter.unusedVariables false
set_option linter.unusedSimpArgs false
set_option maxRecDepth 100000
theorem tablefileBack_lifted (os:Os) (started:os.Started) (H:Type) (enc:TypeId × Value→H) :
  ReturnsInHanded {} Try.checked os 5 .any (Rows.tablefileBackSpec.pre6 enc Try.prog Try.f5 Rows.tablefileBackRow.domain false) (Rows.tablefileBackSpec.post enc Try.prog Try.f5 false true false false):=by
 refine returnsInHanded_of_change_sized (C:=Try.checked) aWH started (by kernel_rfl) Try.func5
  (ChangeSpec.witness6 (enc := enc) (C := Try.checked) false ⟨#[], #[.agg #[.int .i64 0, .int .i64 0, .slice none 0 0, .slice none 0 0, .slice none 0 0, .slice none 0 0, .slice none 0 0, .slice none 0 0, .slice none 0 0, .slice none 0 0], .slice none 0 0], []⟩ 8 (by kernel_rfl) (by kernel_rfl) (by kernel_rfl) (by kernel_rfl)) ?_
 intro W base args ds gs before hval0 hW hcnd hsz _
 have hval:∀ (j:Nat) t v,Try.f5.params[j]?=some t→args[j]?=some v→Value.okWide Try.prog W .any base t v:=hval0
 have hW':=hW
 have hlt:=fun p hp=>hW'.lt p hp
 obtain ⟨pl,q,hA0,hV,rfl,hfz,hnd⟩:=hW
 have hA:DataW.TrodAll enc Try.prog W 0 (fun _=>true) true Try.f5.params.toList args.toList ds pl:=hA0
 have hpar:Try.f5.params.toList=[28,22]:=by rw [Try.params5]
 rw [Try.params5] at hA hval
 obtain ⟨v0,v1,d0,d1,p0,p1,rfl,rfl,rfl,h0,h1⟩:=trodAll_two hA
 obtain ⟨rfl,rfl⟩:=trodVars_none hV
 have hW0:∀ k ∈ d0.weights Try.prog 28,k≤reachBytes:=fun k hk=>by
  have:=List.all_eq_true.1 hsz k (DataW.weights_mem_each (j:=0) (t:=28) (d:=d0) rfl rfl k hk)
  simpa using this
 obtain ⟨p,cs,hp,b0,b1,b2,b3,b4,r0⟩:=aPX (hval 0 28 v0 rfl rfl) h0 hW0
 obtain ⟨l1,r1⟩:=aR5 (hval 1 22 v1 rfl rfl) h1
 have hv : aIU (fun _ => True) W #[v0, v1] [.agg cs, .vsl false (eBs l1)] := ⟨rfl, fun j x hj => by
  match j,hj with
  | 0,hj=>simp at hj;subst hj;exact r0
  | 1,hj=>simp at hj;subst hj;exact r1⟩
 refine (aOj (G:=G0) aVB (aUY hp ⟨b0,b1⟩ ⟨b2,b3⟩ (fun l hl=>Nat.le_trans (b4 l hl) (by decide)) (aCX false l1) []) (y:=.bool true) (c:=true) rfl hv).mono fun e W' he => ?_
 obtain ⟨v,rfl,hbl,hr⟩:=he
 cases hr
 simp only [List.append_nil] at hW' hlt
 refine ⟨_,rfl,aR4 (pa:=p0++p1) (pv:=[]) hW' hbl (fun _ _ _=>trodAll_mk1 (shut_bool Try.underlying4 true)) ?_ rfl (by simp)⟩
 exact trodAll_mk2 (Below.trod aU5 (by kernel_rfl) (of_decide_eq_true (by kernel_rfl)) h0 hbl (fun x hx=>hlt x (by simp [hx]))) (Below.trod aU5 (by kernel_rfl) (of_decide_eq_true (by kernel_rfl)) h1 hbl (fun x hx=>hlt x (by simp [hx])))
theorem tablefileBack_holds:Rows.TablefileBackSaid :=
 OpenClaim.holds_of_wide 5 Try.f5 rfl rfl rfl rfl rfl rfl rfl ⟨rfl,rfl,rfl,rfl,rfl⟩ rfl rfl rfl rfl rfl (by kernel_rfl) Try.func5 (by kernel_rfl)
  (of_decide_eq_true (by kernel_rfl)) (by unfold Func.isWrapper;first | (rw [if_pos (by decide +kernel)];kernel_rfl) | (rw [if_neg (by decide +kernel)];exact ⟨rfl,rfl⟩))
  (fun os started H enc _=>tablefileBack_lifted os started H enc)
#print axioms tablefileBack_holds
end Go.Proofs.Ytgeedikghjcebaa
