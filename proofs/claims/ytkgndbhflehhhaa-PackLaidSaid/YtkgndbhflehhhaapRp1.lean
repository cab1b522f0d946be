/- Arguments: row tables, rows, numbers, read. -/
import Derived.Test.YtkgndbhflehhhaapPk1
import Derived.Test.YtkgndbhflehhhaapWg1
import Derived.Test.YtkgndbhflehhhaaRows
import Derived.ProofKit
import Derived.WalkKit
namespace Go.Proofs.Ytkgndbhflehhhaa.Ai
def inI64 (n : Int) : Prop := -9223372036854775808 ≤ n ∧ n ≤ 9223372036854775807
end Go.Proofs.Ytkgndbhflehhhaa.Ai
namespace Go.Proofs.Ytkgndbhflehhhaa
open Go.ChangeShapes Go.WideShapes Go.ChangeAt Go.RowKit Ai
set_option linter.unusedVariables false
set_option linter.unusedSimpArgs false
set_option maxRecDepth 100000

theorem own0 : ownKnob Try.prog.godebug = none := by kernel_rfl
theorem laid0 : laidOutB Try.prog = true := by kernel_rfl
theorem cInt : Try.prog.cellsOf 3 = 1 := by kernel_rfl
theorem cInts : Try.prog.cellsOf 26 = 1 := by kernel_rfl
theorem cRowT : Try.prog.cellsOf 28 = 4 := by kernel_rfl

/-- 'post' of a call that turns nothing of what was there. -/
theorem post_below {H : Type} {enc : TypeId × Value → H} {P : Program} {f : Func} {s : ChangeSpec} {apart fresh handsOn : Bool} {W W' : World} {args : Array Value} {v : Value} {ds gs : List (DataW H)} {before pa pv : List MemPlace}
    (hW : DataW.Whole enc P f.params.toList s.vars apart W args.toList ds gs before) (hb : Below W.heap.size W W')
    (hres : ∀ (b : Nat) (sp : Nat → Bool) (hd : Bool), DataW.TrodAll enc P W' b sp hd f.resultTypes.toList (v.resultList f.resultTypes.size) (s.fn H (ds ++ gs)).results [])
    (hargs : DataW.TrodAll enc P W' 0 (fun b => decide (b < W.heap.size)) true f.params.toList args.toList (s.fn H (ds ++ gs)).args pa)
    (hvars : DataW.TrodVars enc P W' (fun b => decide (b < W.heap.size)) s.vars (s.fn H (ds ++ gs)).vars pv) (hps : before = pa ++ pv) : s.post enc P f apart fresh handsOn false W args v W' := by
  refine ⟨ds, gs, before, [], pa, pv, hW, hres _ _ _, hargs, hvars, World.keptBut_mono (fun p hp => ⟨hp, ?_⟩) (Below.frame hb (· ∈ before)), fun h => by cases h⟩
  rw [hps, List.mem_append] at hp
  exact Or.inr hp

section
variable {H : Type} {enc : TypeId × Value → H} {w : World} {n : Nat} {cs : List Value} {d : DataW H} {ps : List MemPlace}

theorem wf64 {k : IntKind} {i : Int} (hk : k = .i64) (h : (Lit.int k i).wf = true) : inI64 i := by
  subst hk
  simp only [Lit.wf,Bool.and_eq_true,decide_eq_true_eq] at h
  exact h

theorem agg_of {v : Value} {l : List AV} {cs : Array Value} (hv : v = .agg cs) (hc : Cs w v.cells.toList l) : PRep (fun _ => True) w v (.agg l) := by
  subst hv
  have hcs : Value.cells (.agg cs) = cs := rfl
  rw [hcs] at hc
  have hc' : PReps (fun _ => True) w cs l := by
    unfold Cs at hc
    simpa using hc
  exact .agg cs _ hc'.1 hc'.2

theorem tr_ints (h : Tr enc Try.prog w n 26 cs d ps) : ∃ l : List Int, Cs w cs [.vsl false (eIs l)] ∧ l.length ≤ maxLen ∧ ∀ s ∈ l, inI64 s := by
  obtain ⟨xs, g, _, hx⟩ := tr_slice (X := {s : Int // inI64 s}) (en := fun x => eI x.1) Try.underlying26 (by rw [cInt]; omega)
    (fun k cs d ps hk hh => by obtain ⟨s, _, b, a⟩ := tr_int Try.underlying3 hh; exact ⟨⟨s, wf64 rfl b⟩, a⟩) h
  refine ⟨xs.map (·.1), ?_, by simpa using hx, fun s hs => ?_⟩
  · have : eIs (xs.map (·.1)) = xs.map fun x => eI x.1 := by simp [eIs]
    rw [this]; exact g
  · obtain ⟨x, _, rfl⟩ := List.mem_map.1 hs
    exact x.2

theorem tr_rowT (h : Tr enc Try.prog w n 28 cs d ps) : ∃ x : {c : RowT // (c.row.length ≤ maxLen ∧ c.base.length ≤ maxLen ∧ c.val.length ≤ maxLen ∧ c.own.length ≤ maxLen) ∧ ∀ n ∈ c.base, inI64 n}, Cs w cs [.vsl false (eIs x.1.row), .vsl false (eIs x.1.base), .vsl false (eIs x.1.val), .vsl false (eIs x.1.own)] := by
  obtain ⟨m, rfl, hl, hf⟩ := tr_struct Try.underlying28 h
  rw [cRowT] at hl
  obtain ⟨a0, a1, a2, a3, rfl⟩ : ∃ a0 a1 a2 a3, cs = [a0, a1, a2, a3] := by
    match cs, hl with
    | [a, b, c, d], _ => exact ⟨a, b, c, d, rfl⟩
  obtain ⟨d0, p0, h0⟩ := hf 0 _ rfl
  obtain ⟨d1, p1, h1⟩ := hf 1 _ rfl
  obtain ⟨d2, p2, h2⟩ := hf 2 _ rfl
  obtain ⟨d3, p3, h3⟩ := hf 3 _ rfl
  replace h0 : Tr enc Try.prog w m 26 (([a0, a1, a2, a3].drop 0).take (Try.prog.cellsOf 26)) d0 p0 := h0
  replace h1 : Tr enc Try.prog w m 26 (([a0, a1, a2, a3].drop 1).take (Try.prog.cellsOf 26)) d1 p1 := h1
  replace h2 : Tr enc Try.prog w m 26 (([a0, a1, a2, a3].drop 2).take (Try.prog.cellsOf 26)) d2 p2 := h2
  replace h3 : Tr enc Try.prog w m 26 (([a0, a1, a2, a3].drop 3).take (Try.prog.cellsOf 26)) d3 p3 := h3
  rw [cInts] at h0 h1 h2 h3
  obtain ⟨x0, g0, b0, c0⟩ := tr_ints h0
  obtain ⟨x1, g1, b1, c1⟩ := tr_ints h1
  obtain ⟨x2, g2, b2, c2⟩ := tr_ints h2
  obtain ⟨x3, g3, b3, c3⟩ := tr_ints h3
  refine ⟨⟨⟨x0, x1, x2, x3⟩, ⟨b0, b1, b2, b3⟩, c1⟩, ?_⟩
  have := ((g0.append g1).append g2).append g3
  simpa using this
/-- A row table among the arguments. -/
theorem open_rowT {base : Nat} {v : Value} (hv : Value.okWide Try.prog w .any base 28 v) (h : DataW.Trod enc Try.prog w 0 (fun _ => true) true 28 v d ps) :
    ∃ c cs, RT c cs ∧ (∀ n ∈ c.base, inI64 n) ∧ PRep (fun _ => True) w v (.agg cs) := by
  obtain ⟨n, h⟩ := h
  unfold Value.okWide at hv
  rw [Try.underlying28] at hv
  obtain ⟨cs, rfl, _, _⟩ := hv
  obtain ⟨⟨c, hc1, hc2⟩, hc⟩ := tr_rowT h
  exact ⟨c, _, ⟨_, _, _, _, rfl, li_vsl _ _, li_vsl _ _, li_vsl _ _, li_vsl _ _⟩, hc2, agg_of rfl hc⟩
theorem cells_one {v : Value} (h : ∀ cs, v ≠ .agg cs) : v.cells = #[v] := by
  cases v <;> first | rfl | exact absurd rfl (h _)
/-- A slice of numbers among the arguments. -/
theorem open_nums {base : Nat} {v : Value} (hv : Value.okWide Try.prog w .any base 26 v) (h : DataW.Trod enc Try.prog w 0 (fun _ => true) true 26 v d ps) :
    ∃ l : List Int, l.length ≤ maxLen ∧ (∀ s ∈ l, inI64 s) ∧ PRep (fun _ => True) w v (.vsl false (eIs l)) := by
  obtain ⟨n, h⟩ := h
  have hna : ∀ cs, v ≠ .agg cs := by
    rintro cs rfl
    unfold Value.okWide at hv
    rw [Try.underlying26] at hv
    unfold Cell.okWide at hv
    rw [Try.underlying26] at hv
    unfold Cell.ok at hv
    rw [Try.underlying26] at hv
    exact hv
  obtain ⟨l, hc, h1, h2⟩ := tr_ints h
  refine ⟨l, h1, h2, ?_⟩
  rw [cells_one hna] at hc
  have := hc.2 0 _ rfl
  simpa using this
/-- A number among the arguments. -/
theorem open_num {base : Nat} {v : Value} (hv : Value.okWide Try.prog w .any base 3 v) (h : DataW.Trod enc Try.prog w 0 (fun _ => true) true 3 v d ps) :
    ∃ i : Int, inI64 i ∧ PRep (fun _ => True) w v (.int .i64 i) := by
  obtain ⟨n, h⟩ := h
  have hna : ∀ cs, v ≠ .agg cs := by
    rintro cs rfl
    unfold Value.okWide at hv
    rw [Try.underlying3] at hv
    unfold Cell.okWide at hv
    rw [Try.underlying3] at hv
    unfold Cell.ok at hv
    rw [Try.underlying3] at hv
    exact hv
  obtain ⟨i, _, hw, hc⟩ := tr_int Try.underlying3 h
  refine ⟨i, wf64 rfl hw, ?_⟩
  rw [cells_one hna] at hc
  have := hc.2 0 _ rfl
  simpa using this
end
end Go.Proofs.Ytkgndbhflehhhaa
