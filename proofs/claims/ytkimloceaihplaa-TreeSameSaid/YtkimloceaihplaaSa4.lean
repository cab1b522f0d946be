/-
  TreeSame: for every two trees the program's comparison answers as the specification's does, a tree equals itself, and the fixed examples hold: the law returns true for every input; each argument reads as it read before. Condition: none.
-/
import Derived.Test.YtkimloceaihplaaSa3
import Derived.Test.YtkimloceaihplaaSaK
import Derived.Test.YtkimloceaihplaaRows
import Derived.ProofKit
import Derived.WalkKit
namespace Go.Proofs.Ytkimloceaihplaa
open Go.ChangeShapes Go.WideShapes Go.ChangeAt Go.RowKit Ai
set_option linter.unusedVariables false
set_option linter.unusedSimpArgs false
set_option maxRecDepth 100000

theorem own0 : ownKnob Try.prog.godebug = none := by kernel_rfl
theorem laid0 : laidOutB Try.prog = true := by kernel_rfl
theorem c30 : Try.prog.cellsOf 30 = 3 := by kernel_rfl
theorem c28 : Try.prog.cellsOf 28 = 1 := by kernel_rfl
theorem c3 : Try.prog.cellsOf 3 = 1 := by kernel_rfl

/-- 'post' of a call that turns nothing of what was there. -/
theorem post_below {H : Type} {enc : TypeId × Value → H} {P : Program} {f : Func} {s : ChangeSpec} {apart fresh handsOn : Bool} {W W' : World} {args : Array Value} {v : Value} {ds gs : List (DataW H)} {before pa pv : List MemPlace}
    (hW : DataW.Whole enc P f.params.toList s.vars apart W args.toList ds gs before) (hb : Below W.heap.size W W')
    (hres : ∀ (b : Nat) (sp : Nat → Bool) (hd : Bool), DataW.TrodAll enc P W' b sp hd f.resultTypes.toList (v.resultList f.resultTypes.size) (s.fn H (ds ++ gs)).results [])
    (hargs : DataW.TrodAll enc P W' 0 (fun b => decide (b < W.heap.size)) true f.params.toList args.toList (s.fn H (ds ++ gs)).args pa)
    (hvars : DataW.TrodVars enc P W' (fun b => decide (b < W.heap.size)) s.vars (s.fn H (ds ++ gs)).vars pv) (hps : before = pa ++ pv) : s.post enc P f apart fresh handsOn false W args v W' := by
  refine ⟨ds, gs, before, [], pa, pv, hW, hres _ _ _, hargs, hvars, World.keptBut_mono (fun p hp => ⟨hp, ?_⟩) (Below.frame hb (· ∈ before)), fun h => by cases h⟩
  rw [hps, List.mem_append] at hp
  exact Or.inr hp

section
variable {H : Type} {enc : TypeId × Value → H} {w : World}

theorem okTs_of (xs : List {t : T // okT t}) : okTs (xs.map (·.1)) := by
  induction xs with
  | nil => trivial
  | cons x xs ih => exact ⟨x.2, ih⟩

theorem cTs_map (ks : List T) : cTs ks = ks.map cT := by
  induction ks with
  | nil => rfl
  | cons k ks ih => simp [cTs, ih]

theorem tr_tree : ∀ (n : Nat) (cs : List Value) (d : DataW H) (ps : List MemPlace), Tr enc Try.prog w n 30 cs d ps → ∃ x : {t : T // okT t}, Cs w cs (cT x.1) := by
  intro n
  induction n using Nat.strongRecOn with
  | _ n ih =>
    intro cs d ps h
    obtain ⟨m, rfl, hl, hf⟩ := tr_struct Try.underlying30 h
    rw [c30] at hl
    obtain ⟨a0, a1, a2, rfl⟩ : ∃ a0 a1 a2, cs = [a0, a1, a2] := by
      match cs, hl with
      | [a, b, c], _ => exact ⟨a, b, c, rfl⟩
    obtain ⟨d0, p0, h0⟩ := hf 0 _ rfl
    obtain ⟨d1, p1, h1⟩ := hf 1 _ rfl
    obtain ⟨d2, p2, h2⟩ := hf 2 _ rfl
    replace h0 : Tr enc Try.prog w m 3 (([a0, a1, a2].drop 0).take (Try.prog.cellsOf 3)) d0 p0 := h0
    replace h1 : Tr enc Try.prog w m 3 (([a0, a1, a2].drop 1).take (Try.prog.cellsOf 3)) d1 p1 := h1
    replace h2 : Tr enc Try.prog w m 28 (([a0, a1, a2].drop 2).take (Try.prog.cellsOf 28)) d2 p2 := h2
    rw [c3] at h0 h1
    rw [c28] at h2
    obtain ⟨s, e0, _, g0⟩ := tr_int Try.underlying3 h0
    obtain ⟨r, e1, _, g1⟩ := tr_int Try.underlying3 h1
    obtain ⟨xs, g2, _, hx⟩ := tr_slice (X := {t : T // okT t}) (en := fun x => cT x.1) Try.underlying28 (by rw [c30]; omega) (fun k cs d ps hk hh => ih k (by omega) cs d ps hh) h2
    refine ⟨⟨.node s r (xs.map (·.1)), by simpa using hx, okTs_of xs⟩, ?_⟩
    have e2 : cTs (xs.map (·.1)) = xs.map fun x => cT x.1 := by rw [cTs_map, List.map_map]; rfl
    simp only [cT, e2]
    have := (g0.append g1).append g2
    simpa using this

/-- A tree among the arguments. -/
theorem open_tree {base : Nat} {v : Value} {d : DataW H} {ps : List MemPlace} (hv : Value.okWide Try.prog w .any base 30 v) (h : DataW.Trod enc Try.prog w 0 (fun _ => true) true 30 v d ps) :
    ∃ t : T, okT t ∧ PRep (fun _ => True) w v (.agg (cT t)) := by
  obtain ⟨n, h⟩ := h
  unfold Value.okWide at hv
  rw [Try.underlying30] at hv
  obtain ⟨cs, rfl, _, _⟩ := hv
  obtain ⟨⟨t, ht⟩, hc⟩ := tr_tree n _ d ps h
  refine ⟨t, ht, ?_⟩
  have : Value.cells (.agg cs) = cs := rfl
  rw [this] at hc
  have hc' : PReps (fun _ => True) w cs (cT t) := by
    unfold Cs at hc
    simpa using hc
  exact .agg cs _ hc'.1 hc'.2
end

theorem treeSame_lifted (os : Os) (started : os.Started) (H : Type) (enc : TypeId × Value → H) :
    ReturnsInHanded {} Try.checked os 4 .any (Rows.treeSameSpec.pre6 enc Try.prog Try.f4 Rows.treeSameRow.domain false) (Rows.treeSameSpec.post enc Try.prog Try.f4 false true false false) := by
  refine returnsInHanded_of_change (C := Try.checked) own0 started (by kernel_rfl) Try.func4
    (ChangeSpec.witness6 (enc := enc) (C := Try.checked) false ⟨#[], #[.agg #[.int .i64 0, .int .i64 0, .slice none 0 0], .agg #[.int .i64 0, .int .i64 0, .slice none 0 0]], []⟩ 8 (by kernel_rfl) (by kernel_rfl) (by kernel_rfl) (by kernel_rfl)) ?_
  intro W base args ds gs before hval0 hW hcnd _
  have hval : ∀ (j : Nat) t v, Try.f4.params[j]? = some t → args[j]? = some v → Value.okWide Try.prog W .any base t v := hval0
  have hW' := hW
  have hlt := fun p hp => hW'.lt p hp
  obtain ⟨p, q, hA0, hV, rfl, hfz, hnd⟩ := hW
  have hA : DataW.TrodAll enc Try.prog W 0 (fun _ => true) true Try.f4.params.toList args.toList ds p := hA0
  rw [Try.params4] at hA hval
  obtain ⟨v0, v1, d0, d1, p0, p1, rfl, rfl, rfl, h0, h1⟩ := trodAll_two hA
  obtain ⟨rfl, rfl⟩ := trodVars_none hV
  obtain ⟨a, ha, ra⟩ := open_tree (hval 0 30 v0 rfl rfl) h0
  obtain ⟨b, hb, rb⟩ := open_tree (hval 1 30 v1 rfl rfl) h1
  have hv : PReps (fun _ => True) W #[v0, v1] [.agg (cT a), .agg (cT b)] := ⟨rfl, fun j x hj => by
    match j, hj with
    | 0, hj => simp at hj; subst hj; exact ra
    | 1, hj => simp at hj; subst hj; exact rb⟩
  refine (lim_calls (G := G0) mixed0 (law4 knows ha hb []) (y := .bool true) (c := true) rfl hv).mono fun e W' he => ?_
  obtain ⟨v, rfl, hbl, hr⟩ := he
  cases hr
  simp only [List.append_nil] at hW' hlt
  refine ⟨_, rfl, post_below (pa := p0 ++ p1) (pv := []) hW' hbl (fun _ _ _ => trodAll_mk1 (shut_bool Try.underlying4 true)) ?_ rfl (by simp)⟩
  exact trodAll_mk2 (Below.trod laid0 (by kernel_rfl) (of_decide_eq_true (by kernel_rfl)) h0 hbl (fun x hx => hlt x (by simp [hx]))) (Below.trod laid0 (by kernel_rfl) (of_decide_eq_true (by kernel_rfl)) h1 hbl (fun x hx => hlt x (by simp [hx])))

theorem treeSame_holds : Rows.TreeSameSaid :=
  OpenClaim.holds_of_wide 4 Try.f4 rfl rfl rfl rfl rfl rfl rfl ⟨rfl, rfl, rfl, rfl, rfl⟩ rfl rfl rfl rfl rfl (by kernel_rfl) Try.func4 (by kernel_rfl)
    (of_decide_eq_true (by kernel_rfl)) (by unfold Func.isWrapper; first | (rw [if_pos (by decide +kernel)]; kernel_rfl) | (rw [if_neg (by decide +kernel)]; exact ⟨rfl, rfl⟩))
    (fun os started H enc _ => treeSame_lifted os started H enc)

#print axioms treeSame_holds
end Go.Proofs.Ytkimloceaihplaa
