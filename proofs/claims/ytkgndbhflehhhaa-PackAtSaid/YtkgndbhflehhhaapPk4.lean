/-
  PackAt: for every row table, every row and every column pack.At answers as the specification's At does (or the table is too large and only the fixed examples are looked at): the law returns true for every input; each argument reads as it read before. Condition: none.
-/
import Derived.Test.YtkgndbhflehhhaapPk3
import Derived.Test.YtkgndbhflehhhaapRp1
namespace Go.Proofs.Ytkgndbhflehhhaa
open Go.ChangeShapes Go.WideShapes Go.ChangeAt Go.RowKit Ai
set_option linter.unusedVariables false
set_option linter.unusedSimpArgs false
set_option maxRecDepth 100000

theorem packAt_lifted (os : Os) (started : os.Started) (H : Type) (enc : TypeId × Value → H) :
    ReturnsInHanded {} Try.checked os 4 .any (Rows.packAtSpec.pre6 enc Try.prog Try.f4 Rows.packAtRow.domain false) (Rows.packAtSpec.post enc Try.prog Try.f4 false true false false) := by
  refine returnsInHanded_of_change_sized (C := Try.checked) own0 started (by kernel_rfl) Try.func4
    (ChangeSpec.witness6 (enc := enc) (C := Try.checked) false ⟨#[], #[.agg #[.slice none 0 0, .slice none 0 0, .slice none 0 0, .slice none 0 0], .int .i64 0, .int .i64 0], []⟩ 8 (by kernel_rfl) (by kernel_rfl) (by kernel_rfl) (by kernel_rfl)) ?_
  intro W base args ds gs before hval0 hW hcnd hsz _
  have hval : ∀ (j : Nat) t v, Try.f4.params[j]? = some t → args[j]? = some v → Value.okWide Try.prog W .any base t v := hval0
  have hW' := hW
  have hlt := fun p hp => hW'.lt p hp
  obtain ⟨p, q, hA0, hV, rfl, hfz, hnd⟩ := hW
  have hA : DataW.TrodAll enc Try.prog W 0 (fun _ => true) true Try.f4.params.toList args.toList ds p := hA0
  have hpar : Try.f4.params.toList = [28, 3, 3] := by rw [Try.params4]
  rw [Try.params4] at hA hval
  obtain ⟨v0, v1, v2, d0, d1, d2, p0, p1, p2, rfl, rfl, rfl, h0, h1, h2⟩ := trodAll_three hA
  obtain ⟨rfl, rfl⟩ := trodVars_none hV
  obtain ⟨c, cs, hc, hcb, r0⟩ := open_rowT (hval 0 28 v0 rfl rfl) h0
  obtain ⟨row, _, r1⟩ := open_num (hval 1 3 v1 rfl rfl) h1
  obtain ⟨col, hcol, r2⟩ := open_num (hval 2 3 v2 rfl rfl) h2
  have hv : PReps (fun _ => True) W #[v0, v1, v2] [.agg cs, .int .i64 row, .int .i64 col] := ⟨rfl, fun j x hj => by
    match j, hj with
    | 0, hj => simp at hj; subst hj; exact r0
    | 1, hj => simp at hj; subst hj; exact r1
    | 2, hj => simp at hj; subst hj; exact r2⟩
  refine (lim_calls (G := G0) mixed0 (f_PackAt hc hcb row col hcol.2 []) (y := .bool true) (c := true) rfl hv).mono fun e W' he => ?_
  obtain ⟨v, rfl, hbl, hr⟩ := he
  cases hr
  simp only [List.append_nil] at hW' hlt
  refine ⟨_, rfl, post_below (pa := p0 ++ (p1 ++ p2)) (pv := []) hW' hbl (fun _ _ _ => trodAll_mk1 (shut_bool Try.underlying4 true)) ?_ rfl (by simp)⟩
  exact trodAll_mk3 (Below.trod laid0 (by kernel_rfl) (of_decide_eq_true (by kernel_rfl)) h0 hbl (fun x hx => hlt x (by simp [hx]))) (Below.trod laid0 (by kernel_rfl) (of_decide_eq_true (by kernel_rfl)) h1 hbl (fun x hx => hlt x (by simp [hx]))) (Below.trod laid0 (by kernel_rfl) (of_decide_eq_true (by kernel_rfl)) h2 hbl (fun x hx => hlt x (by simp [hx])))

theorem packAt_holds : Rows.PackAtSaid :=
  OpenClaim.holds_of_wide 4 Try.f4 rfl rfl rfl rfl rfl rfl rfl ⟨rfl, rfl, rfl, rfl, rfl⟩ rfl rfl rfl rfl rfl (by kernel_rfl) Try.func4 (by kernel_rfl)
    (of_decide_eq_true (by kernel_rfl)) (by unfold Func.isWrapper; first | (rw [if_pos (by decide +kernel)]; kernel_rfl) | (rw [if_neg (by decide +kernel)]; exact ⟨rfl, rfl⟩))
    (fun os started H enc _ => packAt_lifted os started H enc)

#print axioms packAt_holds
end Go.Proofs.Ytkgndbhflehhhaa
