/-
  TreeLeast: for every grammar and every whole tree of it tree.Short of the tree's symbol is a whole tree of that symbol, with as few leaves as the given tree or fewer (or the grammar or tree is too large or does not fit, or the shortest tree is too long, and only the fixed examples are looked at): the law returns true for every input; each argument reads as it read before. Condition: none.
-/
import Derived.Test.YtkimloceaihplaamTN
import Derived.Test.YtkimloceaihplaamRd1
namespace Go.Proofs.Ytkimloceaihplaa
open Go.ChangeShapes Go.WideShapes Go.ChangeAt Go.RowKit Ai
set_option linter.unusedVariables false
set_option linter.unusedSimpArgs false
set_option maxRecDepth 100000
theorem treeLeast_lifted (os : Os) (started : os.Started) (H : Type) (enc : TypeId × Value → H) :
  ReturnsInHanded {} Try.checked os 8 .any (Rows.treeLeastSpec.pre6 enc Try.prog Try.f8 Rows.treeLeastRow.domain false) (Rows.treeLeastSpec.post enc Try.prog Try.f8 false true false false) := by
 refine returnsInHanded_of_change_sized (C := Try.checked) own0 started (by kernel_rfl) Try.func8
  (ChangeSpec.witness6 (enc := enc) (C := Try.checked) false ⟨#[], #[.agg #[.slice none 0 0, .slice none 0 0, .slice none 0 0, .slice none 0 0, .slice none 0 0], .agg #[.int .i64 0, .int .i64 0, .slice none 0 0]], []⟩ 8 (by kernel_rfl) (by kernel_rfl) (by kernel_rfl) (by kernel_rfl)) ?_
 intro W base args ds gs before hval0 hW hcnd hsz _
 have hval : ∀ (j : Nat) t v, Try.f8.params[j]? = some t → args[j]? = some v → Value.okWide Try.prog W .any base t v := hval0
 have hW' := hW
 have hlt := fun p hp => hW'.lt p hp
 obtain ⟨p, q, hA0, hV, rfl, hfz, hnd⟩ := hW
 have hA : DataW.TrodAll enc Try.prog W 0 (fun _ => true) true Try.f8.params.toList args.toList ds p := hA0
 have hpar : Try.f8.params.toList = [27, 30] := by rw [Try.params8]
 rw [Try.params8] at hA hval
 obtain ⟨v0, v1, d0, d1, p0, p1, rfl, rfl, rfl, h0, h1⟩ := trodAll_two hA
 obtain ⟨rfl, rfl⟩ := trodVars_none hV
 have hW0 : ∀ k ∈ d0.weights Try.prog 27, k ≤ reachBytes := fun k hk => by
  have := List.all_eq_true.1 hsz k (DataW.weights_mem_each (j := 0) (t := 27) (d := d0) rfl rfl k hk)
  simpa using this
 obtain ⟨g, hg, hn, rg⟩ := open_gram (hval 0 27 v0 rfl rfl) h0 hW0
 obtain ⟨t, ht, rt⟩ := open_tree (hval 1 30 v1 rfl rfl) h1
 have hv : PReps (fun _ => True) W #[v0, v1] [.agg (eGram g), .agg (cT t)] := ⟨rfl, fun j x hj => by
  match j, hj with
  | 0, hj => simp at hj; subst hj; exact rg
  | 1, hj => simp at hj; subst hj; exact rt⟩
 refine (lim_calls (G := G0) mixed0 (f_TreeLeast g hg t ht []) (y := .bool true) (c := true) rfl hv).mono fun e W' he => ?_
 obtain ⟨v, rfl, hbl, hr⟩ := he
 cases hr
 simp only [List.append_nil] at hW' hlt
 refine ⟨_, rfl, post_below (pa := p0 ++ p1) (pv := []) hW' hbl (fun _ _ _ => trodAll_mk1 (shut_bool Try.underlying4 true)) ?_ rfl (by simp)⟩
 exact trodAll_mk2 (Below.trod laid0 (by kernel_rfl) (of_decide_eq_true (by kernel_rfl)) h0 hbl (fun x hx => hlt x (by simp [hx]))) (Below.trod laid0 (by kernel_rfl) (of_decide_eq_true (by kernel_rfl)) h1 hbl (fun x hx => hlt x (by simp [hx])))
theorem treeLeast_holds : Rows.TreeLeastSaid :=
 OpenClaim.holds_of_wide 8 Try.f8 rfl rfl rfl rfl rfl rfl rfl ⟨rfl, rfl, rfl, rfl, rfl⟩ rfl rfl rfl rfl rfl (by kernel_rfl) Try.func8 (by kernel_rfl)
  (of_decide_eq_true (by kernel_rfl)) (by unfold Func.isWrapper; first | (rw [if_pos (by decide +kernel)]; kernel_rfl) | (rw [if_neg (by decide +kernel)]; exact ⟨rfl, rfl⟩))
  (fun os started H enc _ => treeLeast_lifted os started H enc)
#print axioms treeLeast_holds
end Go.Proofs.Ytkimloceaihplaa
