/-
  TablefileSpoilt: for every table, place and byte: the bytes that Put writes, with one byte changed, Take refuses (or nothing is changed, or the table is too large, and only the fixed examples are looked at): the law returns true for every input; each argument reads afterwards as it read before. Condition: none.
-/
import Derived.Test.YtgeedikghjcebaamXU
import Derived.Test.YtgeedikghjcebaamXV
namespace Go.Proofs.Ytgeedikghjcebaa
open Go.ChangeShapes Go.WideShapes Go.ChangeAt Go.RowKit Ai
set_option linter.unusedVariables false
set_option linter.unusedSimpArgs false
set_option maxRecDepth 100000
theorem tablefileSpoilt_lifted (os:Os) (started:os.Started) (H:Type) (enc:TypeId × Value→H) :
  ReturnsInHanded {} Try.checked os 6 .any (Rows.tablefileSpoiltSpec.pre6 enc Try.prog Try.f6 Rows.tablefileSpoiltRow.domain false) (Rows.tablefileSpoiltSpec.post enc Try.prog Try.f6 false true false false):=by
 refine returnsInHanded_of_change_sized (C:=Try.checked) aU4 started (by kernel_rfl) Try.func6
  (ChangeSpec.witness6 (enc := enc) (C := Try.checked) false ⟨#[], #[.agg #[.int .i64 0, .int .i64 0, .slice none 0 0, .slice none 0 0, .slice none 0 0, .slice none 0 0, .slice none 0 0, .slice none 0 0, .slice none 0 0, .slice none 0 0], .int .i64 0, .int .u8 0], []⟩ 8 (by kernel_rfl) (by kernel_rfl) (by kernel_rfl) (by kernel_rfl)) ?_
 intro W base args ds gs before hval0 hW hcnd hsz _
 have hval:∀ (j:Nat) t v,Try.f6.params[j]?=some t→args[j]?=some v→Value.okWide Try.prog W .any base t v:=hval0
 have hW':=hW
 have hlt:=fun p hp=>hW'.lt p hp
 obtain ⟨pl,q,hA0,hV,rfl,hfz,hnd⟩:=hW
 have hA:DataW.TrodAll enc Try.prog W 0 (fun _=>true) true Try.f6.params.toList args.toList ds pl:=hA0
 have hpar:Try.f6.params.toList=[28,3,5]:=by rw [Try.params6]
 rw [Try.params6] at hA hval
 obtain ⟨v0,v1,v2,d0,d1,d2,p0,p1,p2,rfl,rfl,rfl,h0,h1,h2⟩:=trodAll_three hA
 obtain ⟨rfl,rfl⟩:=trodVars_none hV
 have hW0:∀ k ∈ d0.weights Try.prog 28,k≤reachBytes:=fun k hk=>by
  have:=List.all_eq_true.1 hsz k (DataW.weights_mem_each (j:=0) (t:=28) (d:=d0) rfl rfl k hk)
  simpa using this
 obtain ⟨p,cs,hp,b0,b1,b2,b3,b4,r0⟩:=aO7 (hval 0 28 v0 rfl rfl) h0 hW0
 obtain ⟨at1,_,r1⟩:=aR4 (hval 1 3 v1 rfl rfl) h1
 obtain ⟨by2,r2⟩:=aQ2 (hval 2 5 v2 rfl rfl) h2
 have hv : aHy (fun _ => True) W #[v0, v1, v2] [.agg cs, .int .i64 at1, .int .u8 by2.toNat] := ⟨rfl, fun j x hj => by
  match j,hj with
  | 0,hj=>simp at hj;subst hj;exact r0
  | 1,hj=>simp at hj;subst hj;exact r1
  | 2,hj=>simp at hj;subst hj;exact r2⟩
 refine (aMz (G:=G0) aST (aQg hp ⟨b0,b1⟩ ⟨b2,b3⟩ (fun l hl=>Nat.le_trans (b4 l hl) (by decide)) at1 by2 []) (y:=.bool true) (c:=true) rfl hv).mono fun e W' he => ?_
 obtain ⟨v,rfl,hbl,hr⟩:=he
 cases hr
 simp only [List.append_nil] at hW' hlt
 refine ⟨_,rfl,aP3 (pa:=p0++(p1++p2)) (pv:=[]) hW' hbl (fun _ _ _=>trodAll_mk1 (shut_bool Try.underlying4 true)) ?_ rfl (by simp)⟩
 exact trodAll_mk3 (Below.trod aP7 (by kernel_rfl) (of_decide_eq_true (by kernel_rfl)) h0 hbl (fun x hx=>hlt x (by simp [hx]))) (Below.trod aP7 (by kernel_rfl) (of_decide_eq_true (by kernel_rfl)) h1 hbl (fun x hx=>hlt x (by simp [hx]))) (Below.trod aP7 (by kernel_rfl) (of_decide_eq_true (by kernel_rfl)) h2 hbl (fun x hx=>hlt x (by simp [hx])))
theorem tablefileSpoilt_holds:Rows.TablefileSpoiltSaid :=
 OpenClaim.holds_of_wide 6 Try.f6 rfl rfl rfl rfl rfl rfl rfl ⟨rfl,rfl,rfl,rfl,rfl⟩ rfl rfl rfl rfl rfl (by kernel_rfl) Try.func6 (by kernel_rfl)
  (of_decide_eq_true (by kernel_rfl)) (by unfold Func.isWrapper;first | (rw [if_pos (by decide +kernel)];kernel_rfl) | (rw [if_neg (by decide +kernel)];exact ⟨rfl,rfl⟩))
  (fun os started H enc _=>tablefileSpoilt_lifted os started H enc)
#print axioms tablefileSpoilt_holds
end Go.Proofs.Ytgeedikghjcebaa
