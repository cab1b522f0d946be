/-
  PackRights: for every packed value pack.Back answers as the specification's Back does, the table or the error, and pack.Right tells whether there is none (or the value is too large and only the fixed examples are looked at): the law returns true for every input; the argument reads afterwards as it read before. Condition: none.
-/
import Derived.Test.YtkgndbhflehhhaamPuz
import Derived.Test.YtkgndbhflehhhaamRpz
namespace Go.Proofs.Ytkgndbhflehhhaa
open Go.ChangeShapes Go.WideShapes Go.ChangeAt Go.RowKit Ai
set_option linter.unusedVariables false
set_option linter.unusedSimpArgs false
set_option maxRecDepth 100000
theorem packRights_lifted (os : Os) (started : os.Started) (H : Type) (enc : TypeId × Value → H) :
  ReturnsInHanded {} Try.checked os 6 .any (Rows.packRightsSpec.pre6 enc Try.prog Try.f6 Rows.packRightsRow.domain false) (Rows.packRightsSpec.post enc Try.prog Try.f6 false true false false) := by
 refine returnsInHanded_of_change_sized (C := Try.checked) own0 started (by kernel_rfl) Try.func6
  (ChangeSpec.witness6 (enc := enc) (C := Try.checked) false ⟨#[], #[.agg #[.int .i64 0, .int .i64 0, .slice none 0 0, .slice none 0 0, .slice none 0 0, .slice none 0 0, .slice none 0 0, .slice none 0 0, .slice none 0 0, .slice none 0 0]], []⟩ 8 (by kernel_rfl) (by kernel_rfl) (by kernel_rfl) (by kernel_rfl)) ?_
 intro W base args ds gs before hval0 hW hcnd hsz _
 have hval : ∀ (j : Nat) t v, Try.f6.params[j]? = some t → args[j]? = some v → Value.okWide Try.prog W .any base t v := hval0
 have hW' := hW
 have hlt := fun p hp => hW'.lt p hp
 obtain ⟨pl, q, hA0, hV, rfl, hfz, hnd⟩ := hW
 have hA : DataW.TrodAll enc Try.prog W 0 (fun _ => true) true Try.f6.params.toList args.toList ds pl := hA0
 have hpar : Try.f6.params.toList = [38] := by rw [Try.params6]
 rw [Try.params6] at hA hval
 obtain ⟨v0, d0, rfl, rfl, h0⟩ := trodAll_one hA
 obtain ⟨rfl, rfl⟩ := trodVars_none hV
 obtain ⟨p, cs, hp, b0, b1, b2, b3, r0⟩ := open_packed (hval 0 38 v0 rfl rfl) h0
 have hv : PReps (fun _ => True) W #[v0] [.agg cs] := ⟨rfl, fun j x hj => by
  match j, hj with
  | 0, hj => simp at hj; subst hj; exact r0⟩
 refine (lim_calls (G := G0) mixed0 (f_PackRights hp b0 b1 b2 b3 []) (y := .bool true) (c := true) rfl hv).mono fun e W' he => ?_
 obtain ⟨v, rfl, hbl, hr⟩ := he
 cases hr
 simp only [List.append_nil] at hW' hlt
 refine ⟨_, rfl, post_below (pa := pl) (pv := []) hW' hbl (fun _ _ _ => trodAll_mk1 (shut_bool Try.underlying4 true)) ?_ rfl (by simp)⟩
 exact trodAll_mk1 (Below.trod laid0 (by kernel_rfl) (of_decide_eq_true (by kernel_rfl)) h0 hbl (fun x hx => hlt x (by simp [hx])))
theorem packRights_holds : Rows.PackRightsSaid :=
 OpenClaim.holds_of_wide 6 Try.f6 rfl rfl rfl rfl rfl rfl rfl ⟨rfl, rfl, rfl, rfl, rfl⟩ rfl rfl rfl rfl rfl (by kernel_rfl) Try.func6 (by kernel_rfl)
  (of_decide_eq_true (by kernel_rfl)) (by unfold Func.isWrapper; first | (rw [if_pos (by decide +kernel)]; kernel_rfl) | (rw [if_neg (by decide +kernel)]; exact ⟨rfl, rfl⟩))
  (fun os started H enc _ => packRights_lifted os started H enc)
#print axioms packRights_holds
end Go.Proofs.Ytkgndbhflehhhaa
