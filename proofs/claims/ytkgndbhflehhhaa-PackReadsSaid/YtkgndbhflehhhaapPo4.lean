/-
  PackReads: for all rows and every number of places behind a row's end, every entry can be read back by pack.At out of pack.Lay's table, and 0 behind the end (or the rows are too many, or the number is not between 0 and 1000, and only the fixed examples are looked at): the law returns true for every input; the arguments read afterwards as they read before. Condition: none.
-/
import Derived.Test.YtkgndbhflehhhaapPoz
import Derived.Test.YtkgndbhflehhhaapRp2
namespace Go.Proofs.Ytkgndbhflehhhaa
open Go.ChangeShapes Go.WideShapes Go.ChangeAt Go.RowKit Ai
set_option linter.unusedVariables false
set_option linter.unusedSimpArgs false
set_option maxRecDepth 100000

theorem packReads_lifted (os : Os) (started : os.Started) (H : Type) (enc : TypeId × Value → H) :
    ReturnsInHanded {} Try.checked os 8 .any (Rows.packReadsSpec.pre6 enc Try.prog Try.f8 Rows.packReadsRow.domain false) (Rows.packReadsSpec.post enc Try.prog Try.f8 false true false false) := by
  refine returnsInHanded_of_change_sized (C := Try.checked) own0 started (by kernel_rfl) Try.func8
    (ChangeSpec.witness6 (enc := enc) (C := Try.checked) false ⟨#[], #[.slice none 0 0, .int .i64 0], []⟩ 8 (by kernel_rfl) (by kernel_rfl) (by kernel_rfl) (by kernel_rfl)) ?_
  intro W base args ds gs before hval0 hW hcnd hsz _
  have hval : ∀ (j : Nat) t v, Try.f8.params[j]? = some t → args[j]? = some v → Value.okWide Try.prog W .any base t v := hval0
  have hW' := hW
  have hlt := fun p hp => hW'.lt p hp
  obtain ⟨p, q, hA0, hV, rfl, hfz, hnd⟩ := hW
  have hA : DataW.TrodAll enc Try.prog W 0 (fun _ => true) true Try.f8.params.toList args.toList ds p := hA0
  have hpar : Try.f8.params.toList = [22, 3] := by rw [Try.params8]
  rw [Try.params8] at hA hval
  obtain ⟨v0, v1, d0, d1, p0, p1, rfl, rfl, rfl, h0, h1⟩ := trodAll_two hA
  obtain ⟨rfl, rfl⟩ := trodVars_none hV
  obtain ⟨l, hl, r0⟩ := open_rows (hval 0 22 v0 rfl rfl) h0
  obtain ⟨more, _, r1⟩ := open_num (hval 1 3 v1 rfl rfl) h1
  have hv : PReps (fun _ => True) W #[v0, v1] [.vsl false (l.map fun r => [.vsl false (eIs r)]), .int .i64 more] := ⟨rfl, fun j x hj => by
    match j, hj with
    | 0, hj => simp at hj; subst hj; exact r0
    | 1, hj => simp at hj; subst hj; exact r1⟩
  refine (lim_calls (G := G0) mixed0 (f_PackReads hl more []) (y := .bool true) (c := true) rfl hv).mono fun e W' he => ?_
  obtain ⟨v, rfl, hbl, hr⟩ := he
  cases hr
  simp only [List.append_nil] at hW' hlt
  refine ⟨_, rfl, post_below (pa := p0 ++ p1) (pv := []) hW' hbl (fun _ _ _ => trodAll_mk1 (shut_bool Try.underlying4 true)) ?_ rfl (by simp)⟩
  exact trodAll_mk2 (Below.trod laid0 (by kernel_rfl) (of_decide_eq_true (by kernel_rfl)) h0 hbl (fun x hx => hlt x (by simp [hx]))) (Below.trod laid0 (by kernel_rfl) (of_decide_eq_true (by kernel_rfl)) h1 hbl (fun x hx => hlt x (by simp [hx])))

theorem packReads_holds : Rows.PackReadsSaid :=
  OpenClaim.holds_of_wide 8 Try.f8 rfl rfl rfl rfl rfl rfl rfl ⟨rfl, rfl, rfl, rfl, rfl⟩ rfl rfl rfl rfl rfl (by kernel_rfl) Try.func8 (by kernel_rfl)
    (of_decide_eq_true (by kernel_rfl)) (by unfold Func.isWrapper; first | (rw [if_pos (by decide +kernel)]; kernel_rfl) | (rw [if_neg (by decide +kernel)]; exact ⟨rfl, rfl⟩))
    (fun os started H enc _ => packReads_lifted os started H enc)

#print axioms packReads_holds
end Go.Proofs.Ytkgndbhflehhhaa
