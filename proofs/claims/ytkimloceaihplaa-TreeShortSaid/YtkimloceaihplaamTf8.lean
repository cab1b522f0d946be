/-
  TreeShort: for every grammar and every symbol tree.Short answers as the specification's Short does, tree and error (or the grammar is too large or the symbol's shortest tree has many leaves and only the fixed examples are looked at): the law returns true for every input; each argument reads as it read before. Condition: none.
-/
import Derived.Test.YtkimloceaihplaamTL
import Derived.Test.YtkimloceaihplaamRd1
namespace Go.Proofs.Ytkimloceaihplaa
open Go.ChangeShapes Go.WideShapes Go.ChangeAt Go.RowKit Ai
set_option linter.unusedVariables false
set_option linter.unusedSimpArgs false
set_option maxRecDepth 100000
section
variable {H : Type} {enc : TypeId × Value → H} {w : World} {d : DataW H} {ps : List MemPlace}
theorem cells_one {v : Value} (h : ∀ cs, v ≠ .agg cs) : v.cells = #[v] := by
 cases v <;> first | rfl | exact absurd rfl (h _)
theorem open_num {base : Nat} {v : Value} (hv : Value.okWide Try.prog w .any base 3 v) (h : DataW.Trod enc Try.prog w 0 (fun _ => true) true 3 v d ps) :
  ∃ i : Int, inI64 i ∧ PRep (fun _ => True) w v (.int .i64 i) := by
 obtain ⟨n, h⟩ := h
 have hna : ∀ cs, v ≠ .agg cs := by
  rintro cs rfl
  unfold Value.okWide at hv
  rw [Try.underlying3] at hv
  unfold Cell.okWide at hv
  rw [Try.underlying3] at hv
  unfold Cell.ok at hv
  rw [Try.underlying3] at hv
  exact hv
 obtain ⟨i, _, hw, hc⟩ := tr_int Try.underlying3 h
 refine ⟨i, wf64 rfl hw, ?_⟩
 rw [cells_one hna] at hc
 have := hc.2 0 _ rfl
 simpa using this
end
theorem treeShort_lifted (os : Os) (started : os.Started) (H : Type) (enc : TypeId × Value → H) :
  ReturnsInHanded {} Try.checked os 6 .any (Rows.treeShortSpec.pre6 enc Try.prog Try.f6 Rows.treeShortRow.domain false) (Rows.treeShortSpec.post enc Try.prog Try.f6 false true false false) := by
 refine returnsInHanded_of_change_sized (C := Try.checked) own0 started (by kernel_rfl) Try.func6
  (ChangeSpec.witness6 (enc := enc) (C := Try.checked) false ⟨#[], #[.agg #[.slice none 0 0, .slice none 0 0, .slice none 0 0, .slice none 0 0, .slice none 0 0], .int .i64 0], []⟩ 8 (by kernel_rfl) (by kernel_rfl) (by kernel_rfl) (by kernel_rfl)) ?_
 intro W base args ds gs before hval0 hW hcnd hsz _
 have hval : ∀ (j : Nat) t v, Try.f6.params[j]? = some t → args[j]? = some v → Value.okWide Try.prog W .any base t v := hval0
 have hW' := hW
 have hlt := fun p hp => hW'.lt p hp
 obtain ⟨p, q, hA0, hV, rfl, hfz, hnd⟩ := hW
 have hA : DataW.TrodAll enc Try.prog W 0 (fun _ => true) true Try.f6.params.toList args.toList ds p := hA0
 have hpar : Try.f6.params.toList = [27, 3] := by rw [Try.params6]
 rw [Try.params6] at hA hval
 obtain ⟨v0, v1, d0, d1, p0, p1, rfl, rfl, rfl, h0, h1⟩ := trodAll_two hA
 obtain ⟨rfl, rfl⟩ := trodVars_none hV
 have hW0 : ∀ k ∈ d0.weights Try.prog 27, k ≤ reachBytes := fun k hk => by
  have := List.all_eq_true.1 hsz k (DataW.weights_mem_each (j := 0) (t := 27) (d := d0) rfl rfl k hk)
  simpa using this
 obtain ⟨g, hg, hn, rg⟩ := open_gram (hval 0 27 v0 rfl rfl) h0 hW0
 obtain ⟨s, hs, rt⟩ := open_num (hval 1 3 v1 rfl rfl) h1
 have hv : PReps (fun _ => True) W #[v0, v1] [.agg (eGram g), .int .i64 s] := ⟨rfl, fun j x hj => by
  match j, hj with
  | 0, hj => simp at hj; subst hj; exact rg
  | 1, hj => simp at hj; subst hj; exact rt⟩
 refine (lim_calls (G := G0) mixed0 (f_TreeShort g hg s hs []) (y := .bool true) (c := true) rfl hv).mono fun e W' he => ?_
 obtain ⟨v, rfl, hbl, hr⟩ := he
 cases hr
 simp only [List.append_nil] at hW' hlt
 refine ⟨_, rfl, post_below (pa := p0 ++ p1) (pv := []) hW' hbl (fun _ _ _ => trodAll_mk1 (shut_bool Try.underlying4 true)) ?_ rfl (by simp)⟩
 exact trodAll_mk2 (Below.trod laid0 (by kernel_rfl) (of_decide_eq_true (by kernel_rfl)) h0 hbl (fun x hx => hlt x (by simp [hx]))) (Below.trod laid0 (by kernel_rfl) (of_decide_eq_true (by kernel_rfl)) h1 hbl (fun x hx => hlt x (by simp [hx])))
theorem treeShort_holds : Rows.TreeShortSaid :=
 OpenClaim.holds_of_wide 6 Try.f6 rfl rfl rfl rfl rfl rfl rfl ⟨rfl, rfl, rfl, rfl, rfl⟩ rfl rfl rfl rfl rfl (by kernel_rfl) Try.func6 (by kernel_rfl)
  (of_decide_eq_true (by kernel_rfl)) (by unfold Func.isWrapper; first | (rw [if_pos (by decide +kernel)]; kernel_rfl) | (rw [if_neg (by decide +kernel)]; exact ⟨rfl, rfl⟩))
  (fun os started H enc _ => treeShort_lifted os started H enc)
#print axioms treeShort_holds
end Go.Proofs.Ytkimloceaihplaa
